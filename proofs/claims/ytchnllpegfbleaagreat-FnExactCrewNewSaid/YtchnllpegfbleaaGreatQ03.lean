/-
  What is wrong with a plan: of the program and of the reference.
  What a sort leaves of an owned slice of numbers.
  slices.Sort over a slice of numbers of one's own.
  Functions without parameters; slices that are nil, owned out of nothing.
  The tasks before and behind a task: of the program and of the reference.
  When a run is right. Theory alone.
-/
import Derived.Shelf.Sort.Plain
import Derived.Shelf.Slices.In.SortNone
import Derived.Test.YtchnllpegfbleaaGreatQ02
namespace Go.Proofs.YtchnllpegfbleaaGreat
set_option linter.unusedSimpArgs false
set_option linter.unusedVariables false
set_option maxRecDepth 100000
open Go.RowKit


theorem I64_rng {a : Int} (h : 0 ≤ a ∧ a < 4294967296) : I64 a := by unfold I64; omega
theorem vY {out : List Bool} {i : Nat} (h : i < out.length) : out.getD i false = out[i] := by simp [List.getD, h]
section
variable {es : List Edge} {n : Nat} {t : Int} {q : List Int} {out : List Bool} {h i : Nat}
theorem BInv.skip1 (b : BInv es n t q out h i) (hin : EdgesIn n es) (hi : i < es.length) (hh : h < q.length) (hne : ¬ es[i].from_ = q[h]) : BInv es n t q out h (i + 1) :=
  b.skip hin (List.getElem?_eq_getElem hi) (List.getElem?_eq_getElem hh) (fun hc => hne hc.1)
theorem BInv.skip2 (b : BInv es n t q out h i) (hin : EdgesIn n es) (hi : i < es.length) (hh : h < q.length) (hl : es[i].to_.toNat < out.length) (ho : (!out[es[i].to_.toNat]) = false) : BInv es n t q out h (i + 1) :=
  b.skip hin (List.getElem?_eq_getElem hi) (List.getElem?_eq_getElem hh) (fun hc => by have := hc.2; rw [vY hl] at this; rw [this] at ho; cases ho)
theorem BInv.add1 (b : BInv es n t q out h i) (hin : EdgesIn n es) (hi : i < es.length) (hh : h < q.length) (hf : es[i].from_ = q[h]) (hl : es[i].to_.toNat < out.length) (ho : (!out[es[i].to_.toNat]) = true) : BInv es n t (q ++ [es[i].to_]) (out.set es[i].to_.toNat true) h (i + 1) :=
  b.add hin (List.getElem?_eq_getElem hi) (List.getElem?_eq_getElem hh) hf (by rw [vY hl]; simpa using ho)
end
theorem fromOf_len (es : List Edge) (n : Nat) (t : Int) : (lH es n t).length = n := by simp [lH]
theorem sX {es : List Edge} {n : Nat} {t : Int} {k : Nat} (h : k < (lH es n t).length) : (lH es n t)[k] = pB (Rch es t (k : Int)) := by simp [lH]
theorem pM {p : Plan} (h : ¬ dQ p) : (1 ≤ p.tasks ∧ p.tasks ≤ 12) ∧ p.edges.length ≤ 30 := by unfold dQ at h; omega

set_option maxHeartbeats 2000000 in
theorem IndexE (w : World) {v : Value} {xs : List Edge} {fp : List Nat} (h : Sl w v xs fp) {ds : List Value} {y : Edge} {gp : List Nat} (hd : Shape.C w ds y gp) :
    Calls Tryz.prog 232 #[v, .agg ds.toArray] w fun e w' => e = .returned (I (ixI (hG (fun x => eqB y x) xs))) ∧ St w w' [] := by
  have hcap := h.len_le
  refine cF Tryz.func232 rfl Tryz.ntmps232 (by decide) (wp_seq (aA (sg (aQ (cs := ds) rfl (St.start w) ?_)))); intro b1 W2 hb3 st4
  refine sg (aD (v := I 0) rfl (aE (wp_seq (wp_seq (aA (sg (aB (v := v) rfl (sg (aV cZ rfl h (sg (aB (v := I 0) rfl (aE (wp_block (bH (fun (m : Nat) (f : Nat → Value) (W : World) => ∃ (k : Nat), k ≤ xs.length ∧ (xs.take k).any (fun x => eqB y x) = false ∧ m = xs.length - k ∧ f 0 = v ∧ f 3 = .pointer (some ⟨b1, 0, none⟩) ∧ f 7 = I (xs.length : Int) ∧ f 8 = I (k : Int) ∧ St w W ([Res.bx b1 ds 176])) (xs.length - 0) ?_ ?_))))))))))))))
  · exact ⟨0, Nat.zero_le _, rfl, rfl, rfl, rfl, rfl, rfl, st4⟩
  intro m6 f7 W8 hJ9
  obtain ⟨k, hk, hany, rfl, hs11_0, hs11_3, hs11_7, hs11_8, st10⟩ := hJ9
  refine wp_seq (aA (sg (aY hs11_8 hs11_7 (aE (wp_seq (aR rfl (fun h12 => ?_) (fun h12 => ?_)))))))
  · have h12p := of_decide_eq_true h12
    refine wp_skip (wp_seq (wp_block (wp_seq (aA (sg (aB (v := I (k : Int)) hs11_8 (sg (aD (v := I (k : Int)) rfl (aE (wp_seq ?_))))))))))
    have hk15 := hd
    obtain ⟨he15, rfl, hok15⟩ := hk15
    have he15 : _ = [I y.from_, I y.to_] := he15
    subst he15
    have hi51fab : k < xs.length := (by omega)
    have hq_ := idx h (i := k) hi51fab
    obtain ⟨b16, o16, cs16, f16, hp16, hr16, hc16, hm16⟩ := hq_
    have hk17 := hc16
    obtain ⟨he17, rfl, hok17⟩ := hk17
    have he17 : _ = [I (xs[k]'hi51fab).from_, I (xs[k]'hi51fab).to_] := he17
    subst he17
    refine dI [Pl.is (.agg #[I y.from_, I y.to_]), Pl.is (v) (Sl.yl h), Pl.is (I (k : Int)), Pl.is (.pointer (some ⟨b16, o16, none⟩)), Pl.is (.agg #[I (xs[k]'hi51fab).from_, I (xs[k]'hi51fab).to_]), Pl.bool (eqB y (xs[k]'hi51fab))] mix (by rfl) st10 ⟨(fun f W hst hbl hd hf => aU (cs := [I y.from_, I y.to_]) fN rfl ((hf 3 rfl).trans hs11_3) (hst.get 0 rfl) rfl rfl brq), (fun f W hst hbl hd hf => aB (v := v) ((hf 0 rfl).trans hs11_0) brq), (fun f W hst hbl hd hf => aB (v := I (k : Int)) ((hf 5 rfl).trans (show _ = I (k : Int) from rfl)) brq), (fun f W hst hbl hd hf => aG cZ (hd 1 12 rfl rfl) hp16 (hd 2 13 rfl rfl) rfl brq), (fun f W hst hbl hd hf => cS (cs := [I (xs[k]'hi51fab).from_, I (xs[k]'hi51fab).to_]) fN rfl (hd 3 14 rfl rfl) hr16 hst.below (i := 0) rfl rfl rfl brq), (fun f W hst hbl hd hf => uB (vQ y (xs[k]'hi51fab)) vZ (hd 0 11 rfl rfl) (hd 4 15 rfl rfl) brq), trivial⟩ ?_
    intro f18 W19 st20 hb21 hv22 hf23
    refine aR (hv22 5 16 (by decide) rfl) (fun h24 => ?_) (fun h24 => ?_)
    · refine wp_seq (aA (sg (aB (v := I (k : Int)) ((hf23 5 rfl).trans (show _ = I (k : Int) from rfl)) (sg (aD (v := I (k : Int)) rfl (aE (wp_ret ?_))))))); repeat first|refine aH ?_|refine aI ?_
      refine aW Tryz.results232 rfl ?_
      exact ⟨(congrArg (fun z => Ending.returned (I z)) (by rw [iZ (by omega) hany h24]; try rfl)), st20.bare⟩
    · refine wp_skip (aA (sg (aP ((hf23 8 rfl).trans hs11_8) rfl (by (simp only [I64] at *; omega)) (sg (aB (v := I ((k : Int) + 1)) rfl (aE ?_))))))
      exact ⟨_, xs.length - (k + 1), (by omega), rfl, k + 1, (by omega), (lQ (by omega) hany h24), rfl, ((hf23 0 rfl).trans hs11_0), ((hf23 3 rfl).trans hs11_3), ((hf23 7 rfl).trans hs11_7), rfl, st20⟩
  · have h12p := of_decide_eq_false h12
    refine wp_exit (wp_seq (aA (sg (aD (v := I (-1)) rfl (aE (wp_ret ?_)))))); repeat first|refine aH ?_|refine aI ?_
    refine aW Tryz.results232 rfl ?_
    obtain rfl : k = xs.length := by omega
    rw [List.take_length] at hany
    exact ⟨(congrArg (fun z => Ending.returned (I z)) (by rw [jA hany]; try rfl)), st10.bare⟩
set_option maxHeartbeats 2000000 in
theorem ContE (w : World) {v : Value} {xs : List Edge} {fp : List Nat} (h : Sl w v xs fp) {ds : List Value} {y : Edge} {gp : List Nat} (hd : Shape.C w ds y gp) :
    Calls Tryz.prog 215 #[v, .agg ds.toArray] w fun e w' => e = .returned (.bool (decide (y ∈ xs))) ∧ St w w' [] := by
  refine cF Tryz.func215 rfl Tryz.ntmps215 (by decide) (wp_seq (aA (sg (aQ (cs := ds) rfl (St.start w) ?_)))); intro b1 W2 hb3 st4
  refine sg (aD (v := .bool false) rfl (aE (wp_seq (aA (sg (aB (v := v) rfl (sg (bE fN rfl rfl (st4.get 0 rfl) (Shape.len hd) (sg (aZ Tryz.func232 rfl rfl rfl ((IndexE W2 (h.below st4.below) hd).mono ?_))))))))))); rintro _ W6 ⟨rfl, hk7⟩; refine ⟨_, rfl, ?_⟩
  have st8 := St.call st4 hk7
  refine sg (gT rfl rfl (sg (aD (v := .bool (decide (0 ≤ (ixI (hG (fun x => eqB y x) xs))))) rfl (aE (wp_ret ?_))))); repeat first|refine aH ?_|refine aI ?_
  refine aW Tryz.results215 rfl ?_
  exact ⟨(congrArg (fun z => Ending.returned (.bool z)) (wI y xs)), st8.bare⟩
set_option maxHeartbeats 2000000 in
theorem WaitsI (w : World) {p : Plan} {cs : List Value} {fp : List Nat} (hc : Shape.C w cs p fp) (hn : 1 ≤ p.tasks ∧ p.tasks ≤ 12) (hl : p.edges.length ≤ 30) (hi : EdgesIn p.tasks.toNat p.edges) :
    Calls Tryz.prog 216 #[.agg cs.toArray] w fun e w' => ∃ (v : Value) (fp' : List Nat), e = .returned v ∧ St w w' [Res.own v (eP (eH p.edges (List.replicate p.tasks.toNat 0) p.tasks.toNat)) fp'] := by
  refine dU Tryz.func216 rfl Tryz.ntmps216 (by decide) (wp_seq (aA (sg (aQ (cs := cs) rfl (St.start w) ?_)))); intro b1 W2 hb3 st4
  refine sg (aD (v := .slice none 0 0) rfl (aE (wp_seq (aA (sg (aC eK rfl ?_))))))
  have hk6 := hc
  obtain ⟨v6_0, g6_0, rfl, hok6, h6_0, rfl⟩ := hk6
  refine sg (aF aJ rfl rfl (st4.get 0 rfl) (i := 3) rfl rfl ?_)
  have hNI : I p.tasks = I ((p.tasks.toNat : Nat) : Int) := congrArg I (Int.toNat_of_nonneg (by omega)).symm
  refine sg (sE (α := Int) (N := p.tasks.toNat) (v := I 0) (z := 0) gH (by kernel_rfl) ((show _ = I p.tasks from rfl).trans hNI) ((show _ = I p.tasks from rfl).trans hNI) (by omega) (by omega) st4 (fun W => ⟨rfl, rfl, by unfold I64; omega⟩) ?_); intro b7 fp11 W8 hb9 st10
  refine sg (aD (v := (.slice (some ⟨b7, 0, none⟩) p.tasks.toNat p.tasks.toNat)) rfl (aE (wp_seq (wp_seq (aA (sg (aC eK rfl (sg (aF aJ rfl rfl (st10.get 1 rfl) (i := 3) rfl rfl (sg (aB (v := I 0) rfl (aE (wp_block (bH (fun (m : Nat) (f : Nat → Value) (W : World) => ∃ (k : Nat) (fo13 : List Nat), k ≤ p.tasks.toNat ∧ m = p.tasks.toNat - k ∧ f 1 = .pointer (some ⟨b1, 0, none⟩) ∧ f 3 = (.slice (some ⟨b7, 0, none⟩) p.tasks.toNat p.tasks.toNat) ∧ f 10 = I p.tasks ∧ f 11 = I (k : Int) ∧ St w W ([Res.own (α := List Int) (.slice (some ⟨b7, 0, none⟩) p.tasks.toNat p.tasks.toNat) (eP (eH p.edges (List.replicate p.tasks.toNat 0) k)) fo13, Res.bx b1 [I p.prio, I p.most, I p.wait, I p.tasks, v6_0] 106])) (p.tasks.toNat - 0) ?_ ?_))))))))))))))
  · exact ⟨0, fp11, (by first | omega | simp), rfl, rfl, rfl, rfl, rfl, (by have hz := st10; rw [castL_rep] at hz; exact hz)⟩
  intro m14 f15 W16 hJ17
  obtain ⟨k, fo13, hcd19_0, rfl, hs19_1, hs19_3, hs19_10, hs19_11, st18⟩ := hJ17
  refine wp_seq (aA (sg (aY hs19_11 hs19_10 (aE (wp_seq (aR rfl (fun h20 => ?_) (fun h20 => ?_)))))))
  · have h20p := of_decide_eq_true h20
    refine wp_skip (wp_seq (wp_block (wp_seq (aA (sg (aC dK hs19_1 (sg (aF eB rfl rfl (st18.get 1 rfl) (i := 4) rfl rfl (sg (aV cZ rfl h6_0 (sg (aB (v := I 0) rfl (aE (wp_block (bH (fun (m : Nat) (f : Nat → Value) (W : World) => ∃ (i : Nat) (fo21 : List Nat), i ≤ p.edges.length ∧ m = p.edges.length - i ∧ f 1 = .pointer (some ⟨b1, 0, none⟩) ∧ f 3 = (.slice (some ⟨b7, 0, none⟩) p.tasks.toNat p.tasks.toNat) ∧ f 10 = I p.tasks ∧ f 11 = I (k : Int) ∧ f 14 = v6_0 ∧ f 15 = I (p.edges.length : Int) ∧ f 16 = I (i : Int) ∧ St w W ([Res.own (α := List Int) (.slice (some ⟨b7, 0, none⟩) p.tasks.toNat p.tasks.toNat) (eP (hQ (p.edges.take i) (eH p.edges (List.replicate p.tasks.toNat 0) k))) fo21, Res.bx b1 [I p.prio, I p.most, I p.wait, I p.tasks, v6_0] 106])) (p.edges.length - 0) ?_ ?_)))))))))))))))
    · exact ⟨0, fo13, (by first | omega | simp), rfl, hs19_1, hs19_3, hs19_10, hs19_11, rfl, rfl, rfl, st18⟩
    intro m22 f23 W24 hJ25
    obtain ⟨i, fo21, hcd27_0, rfl, hs27_1, hs27_3, hs27_10, hs27_11, hs27_14, hs27_15, hs27_16, st26⟩ := hJ25
    refine wp_seq (aA (sg (aY hs27_16 hs27_15 (aE (wp_seq (aR rfl (fun h28 => ?_) (fun h28 => ?_)))))))
    · have h28p := of_decide_eq_true h28
      refine wp_skip (wp_seq (wp_block (wp_seq (aA ?_))))
      have hi99fa3 : i < p.edges.length := (by omega)
      have hq_ := idx h6_0 (i := i) hi99fa3
      obtain ⟨b29, o29, cs29, f29, hp29, hr29, hc29, hm29⟩ := hq_
      refine sg (aG cZ hs27_14 hp29 hs27_16 rfl (sg (bY fN rfl rfl hr29 st26.below (Shape.len hc29) (sg (bN kT st26 ?_))))); intro b30 W31 hb32 st33
      refine sg (bU (cs := cs29) fN hc29 rfl rfl st33 rfl ?_); intro W35 st36
      refine aE ?_
      have hk37 := hc29
      obtain ⟨he37, rfl, hok37⟩ := hk37
      have he37 : _ = [I (p.edges[i]'hi99fa3).from_, I (p.edges[i]'hi99fa3).to_] := he37
      subst he37
      have hea := hi.at (k := i) (by omega)
      have hxl : (eP (hQ (p.edges.take i) (eH p.edges (List.replicate p.tasks.toNat 0) k))).length = p.tasks.toNat := by rw [tG, pN, iW, List.length_replicate]
      have hbd := qT (n := p.tasks.toNat) (by omega) (es := p.edges.take i) (fun e he => hi e (List.mem_of_mem_take he)) (sJ (by omega) hi k)
      have hi3a21e : ((p.edges[i]'hi99fa3).from_).toNat < (eP (hQ (p.edges.take i) (eH p.edges (List.replicate p.tasks.toNat 0) k))).length := (by omega)
      have hq_ := idx (bC (st36.get 1 rfl)) (i := ((p.edges[i]'hi99fa3).from_).toNat) hi3a21e
      obtain ⟨b38, o38, cs38, f38, hp38, hr38, hc38, hm38⟩ := hq_
      have hk38 := hc38
      obtain ⟨rfl, rfl, hok38⟩ := hk38
      have hid0fd1 : ((p.edges[i]'hi99fa3).to_).toNat < (eP (hQ (p.edges.take i) (eH p.edges (List.replicate p.tasks.toNat 0) k))).length := (by omega)
      have hq_ := idx (bC (st36.get 1 rfl)) (i := ((p.edges[i]'hi99fa3).to_).toNat) hid0fd1
      obtain ⟨b39, o39, cs39, f39, hp39, hr39, hc39, hm39⟩ := hq_
      have hk39 := hc39
      obtain ⟨rfl, rfl, hok39⟩ := hk39
      refine tL 16 [Pl.is ((.slice (some ⟨b7, 0, none⟩) p.tasks.toNat p.tasks.toNat)) (Sl.yl (bC (st36.get 1 rfl))), Pl.is (.pointer (some ⟨b30, 0 + 0, none⟩)), Pl.is (I (p.edges[i]'hi99fa3).from_), Pl.is (.pointer (some ⟨b38, o38, none⟩)), Pl.is (I ((eP (hQ (p.edges.take i) (eH p.edges (List.replicate p.tasks.toNat 0) k)))[((p.edges[i]'hi99fa3).from_).toNat]'hi3a21e)), Pl.is (.pointer (some ⟨b30, 0 + 1, none⟩)), Pl.is (I (p.edges[i]'hi99fa3).to_), Pl.is (I (rZ (p.edges[i]'hi99fa3).to_)), Pl.is ((.slice (some ⟨b7, 0, none⟩) p.tasks.toNat p.tasks.toNat)) (Sl.yl (bC (st36.get 1 rfl))), Pl.is (.pointer (some ⟨b30, 0 + 1, none⟩)), Pl.is (I (p.edges[i]'hi99fa3).to_), Pl.is (.pointer (some ⟨b39, o39, none⟩)), Pl.is (I ((eP (hQ (p.edges.take i) (eH p.edges (List.replicate p.tasks.toNat 0) k)))[((p.edges[i]'hi99fa3).to_).toNat]'hid0fd1)), Pl.is (I (orI (rZ (p.edges[i]'hi99fa3).to_) ((eP (hQ (p.edges.take i) (eH p.edges (List.replicate p.tasks.toNat 0) k)))[((p.edges[i]'hi99fa3).to_).toNat]'hid0fd1))), Pl.is (I (orI ((eP (hQ (p.edges.take i) (eH p.edges (List.replicate p.tasks.toNat 0) k)))[((p.edges[i]'hi99fa3).from_).toNat]'hi3a21e) (orI (rZ (p.edges[i]'hi99fa3).to_) ((eP (hQ (p.edges.take i) (eH p.edges (List.replicate p.tasks.toNat 0) k)))[((p.edges[i]'hi99fa3).to_).toNat]'hid0fd1)))), Pl.is (.pointer (some ⟨b38, o38, none⟩))] mix (by rfl) (by rfl) st36 ⟨(fun f W hst hbl hd hf => aB (v := (.slice (some ⟨b7, 0, none⟩) p.tasks.toNat p.tasks.toNat)) ((hf 3 rfl).trans hs27_3) brq), (fun f W hst hbl hd hf => aC fU ((hf 5 rfl).trans (show _ = (.pointer (some ⟨b30, 0, none⟩) : Value) from rfl)) brq), (fun f W hst hbl hd hf => aF aJ rfl (hd 1 21 rfl rfl) (hst.get 0 rfl) (i := 0) rfl rfl brq), (fun f W hst hbl hd hf => aG dF (hd 0 20 rfl rfl) hp38 (hd 2 22 rfl rfl) (by omega) brq), (fun f W hst hbl hd hf => aK aJ rfl (hd 3 23 rfl rfl) hr38 hbl (i := 0) rfl rfl brq), (fun f W hst hbl hd hf => aC fO ((hf 5 rfl).trans (show _ = (.pointer (some ⟨b30, 0, none⟩) : Value) from rfl)) brq), (fun f W hst hbl hd hf => aF aJ rfl (hd 5 25 rfl rfl) (hst.get 0 rfl) (i := 1) rfl rfl brq), (fun f W hst hbl hd hf => stp_shlI rfl (hd 6 26 rfl rfl) (by omega) brq), (fun f W hst hbl hd hf => aB (v := (.slice (some ⟨b7, 0, none⟩) p.tasks.toNat p.tasks.toNat)) ((hf 3 rfl).trans hs27_3) brq), (fun f W hst hbl hd hf => aC fO ((hf 5 rfl).trans (show _ = (.pointer (some ⟨b30, 0, none⟩) : Value) from rfl)) brq), (fun f W hst hbl hd hf => aF aJ rfl (hd 9 29 rfl rfl) (hst.get 0 rfl) (i := 1) rfl rfl brq), (fun f W hst hbl hd hf => aG dF (hd 8 28 rfl rfl) hp39 (hd 10 30 rfl rfl) (by omega) brq), (fun f W hst hbl hd hf => aK aJ rfl (hd 11 31 rfl rfl) hr39 hbl (i := 0) rfl rfl brq), (fun f W hst hbl hd hf => vO (hd 7 27 rfl rfl) (hd 12 32 rfl rfl) (qN (by omega)) (jB hbd _ _) brq), (fun f W hst hbl hd hf => vO (hd 4 24 rfl rfl) (hd 13 33 rfl rfl) (jB hbd _ _) (tM (qN (by omega)) (jB hbd _ _)) brq), (fun f W hst hbl hd hf => aG dF (hd 0 20 rfl rfl) hp38 (hd 2 22 rfl rfl) (by omega) brq), trivial⟩ ?_
      intro f40 W41 st42 hb43 hv44 hf45
      have st46 := st42.f1
      refine sg (pH (α := Int) (z := orI ((eP (hQ (p.edges.take i) (eH p.edges (List.replicate p.tasks.toNat 0) k)))[((p.edges[i]'hi99fa3).from_).toNat]'hi3a21e) (orI (rZ (p.edges[i]'hi99fa3).to_) ((eP (hQ (p.edges.take i) (eH p.edges (List.replicate p.tasks.toNat 0) k)))[((p.edges[i]'hi99fa3).to_).toNat]'hid0fd1))) rfl (by kernel_rfl) (hv44 15 35 (by decide) rfl) hp38 hi3a21e (hv44 14 34 (by decide) rfl) rfl rfl st46 (fun W => ⟨rfl, rfl, (I64_rng (tM (jB hbd _ _) (tM (qN (by omega)) (jB hbd _ _))))⟩) ?_); intro fp47 W48 st49
      refine aE (aA (sg (aP ((hf45 16 rfl).trans hs27_16) rfl (by (simp only [I64] at *; omega)) (sg (aB (v := I ((i : Int) + 1)) rfl (aE ?_))))))
      have st50 := st49.f2
      have st51 := st50.f1
      have st52 := st51.d2
      exact ⟨_, p.edges.length - (i + 1), (by omega), rfl, i + 1, fp47, (by omega), rfl, ((hf45 1 rfl).trans hs27_1), ((hf45 3 rfl).trans hs27_3), ((hf45 10 rfl).trans hs27_10), ((hf45 11 rfl).trans hs27_11), ((hf45 14 rfl).trans hs27_14), ((hf45 15 rfl).trans hs27_15), rfl, (by rw [relax_snoc _ _ _ (by omega), ← castL_relax1 (m := (hQ (p.edges.take i) (eH p.edges (List.replicate p.tasks.toNat 0) k))) (e := p.edges[i]) (by omega) (by omega) (by omega)]; exact st52)⟩
    · have h28p := of_decide_eq_false h28
      refine wp_exit (aA (sg (aP hs27_11 rfl (by (simp only [I64] at *; omega)) (sg (aB (v := I ((k : Int) + 1)) rfl (aE ?_))))))
      exact ⟨_, p.tasks.toNat - (k + 1), (by omega), rfl, k + 1, fo21, (by omega), rfl, hs27_1, hs27_3, hs27_10, rfl, (by rw [show eH p.edges (List.replicate p.tasks.toNat 0) (k + 1) = hQ (p.edges.take i) (eH p.edges (List.replicate p.tasks.toNat 0) k) from by rw [show i = p.edges.length by omega, List.take_length]; rfl]; exact st26)⟩
  · have h20p := of_decide_eq_false h20
    refine wp_exit (wp_seq (aA (sg (aB (v := (.slice (some ⟨b7, 0, none⟩) p.tasks.toNat p.tasks.toNat)) hs19_3 (sg (aD (v := (.slice (some ⟨b7, 0, none⟩) p.tasks.toNat p.tasks.toNat)) rfl (aE (wp_ret ?_)))))))); repeat first|refine aH ?_|refine aI ?_
    refine aW Tryz.results216 rfl ?_
    obtain rfl : k = p.tasks.toNat := by omega
    exact ⟨_, _, rfl, st18.only 0 rfl⟩
set_option maxHeartbeats 2000000 in
theorem FromS (w : World) {p : Plan} {cs : List Value} {fp : List Nat} (hc : Shape.C w cs p fp) (t : Int) (hn : 1 ≤ p.tasks ∧ p.tasks ≤ 12) (hl : p.edges.length ≤ 30) (hi : EdgesIn p.tasks.toNat p.edges) (ht : 0 ≤ t ∧ t < p.tasks) :
    Calls Tryz.prog 213 #[.agg cs.toArray, I t] w fun e w' => ∃ (v : Value) (fp' : List Nat), e = .returned v ∧ St w w' [Res.own v (lH p.edges p.tasks.toNat t) fp'] := by
  refine cF Tryz.func213 rfl Tryz.ntmps213 (by decide) (wp_seq (aA (sg (aQ (cs := cs) rfl (St.start w) ?_)))); intro b1 W2 hb3 st4
  refine sg (aD (v := .slice none 0 0) rfl (aE (wp_seq (aA (sg (aC eK rfl ?_))))))
  have hk6 := hc
  obtain ⟨v6_0, g6_0, rfl, hok6, h6_0, rfl⟩ := hk6
  refine sg (aF aJ rfl rfl (st4.get 0 rfl) (i := 3) rfl rfl ?_)
  have hNI : I p.tasks = I ((p.tasks.toNat : Nat) : Int) := congrArg I (Int.toNat_of_nonneg (by omega)).symm
  refine sg (sE (α := Bool) (N := p.tasks.toNat) (v := .bool false) (z := false) ap_boolS (by kernel_rfl) ((show _ = I p.tasks from rfl).trans hNI) ((show _ = I p.tasks from rfl).trans hNI) (by omega) (by omega) st4 (fun W => ⟨rfl, rfl, trivial⟩) ?_); intro b7 fp11 W8 hb9 st10
  refine sg (aD (v := (.slice (some ⟨b7, 0, none⟩) p.tasks.toNat p.tasks.toNat)) rfl (aE (wp_seq (aA (sg (aB (v := I t) rfl (sg (bR (cs := [I t]) (e := 3) (eG (v := I t) rfl gK) (cG gH _ _ rfl rfl (by decide)) st10 ?_)))))))); intro b13 W14 hb15 st16
  refine sg (aD (v := .slice (some ⟨b13, 0, none⟩) 1 1) rfl (aE (wp_seq (wp_seq (aA (sg (aD (v := I 0) rfl (aE (wp_block ?_)))))))))
  have st18 := St.row_lit (α := Int) (ys := [t]) st16 rfl (Nat.le_of_ble_eq_true rfl) (Elems.ic (by simp only [I64] at *; omega) Elems.i0)
  refine bH (fun (m : Nat) (f : Nat → Value) (W : World) => ∃ (q : List Int) (out : List Bool) (h : Nat) (v19 : Value) (fo20 : List Nat), BInv p.edges p.tasks.toNat t q out h 0 ∧ h ≤ q.length ∧ m = p.tasks.toNat + 2 - h ∧ f 2 = .pointer (some ⟨b1, 0, none⟩) ∧ f 5 = (.slice (some ⟨b7, 0, none⟩) p.tasks.toNat p.tasks.toNat) ∧ f 6 = v19 ∧ f 7 = I (h : Int) ∧ St w W ([Res.row (α := Int) 3 v19 q [], Res.own (α := List Bool) (.slice (some ⟨b7, 0, none⟩) p.tasks.toNat p.tasks.toNat) out fo20, Res.bx b1 [I p.prio, I p.most, I p.wait, I p.tasks, v6_0] 106])) (p.tasks.toNat + 2 - 0) ?_ ?_
  · exact ⟨[t], (List.replicate p.tasks.toNat false), 0, (.slice (some ⟨b13, 0, none⟩) 1 1), fp11, BInv.start, (by simp), rfl, rfl, rfl, rfl, rfl, st18⟩
  intro m21 f22 W23 hJ24
  obtain ⟨q, out, h, v19, fo20, hB, hh, rfl, hs26_2, hs26_5, hs26_6, hs26_7, st25⟩ := hJ24
  have hBl := hB.len_le
  refine wp_seq (wp_seq (aA (sg (aB (v := I (h : Int)) hs26_7 (sg (aB (v := v19) hs26_6 (sg (aV dF rfl (dL (st25.get 0 rfl)) (sg (aY rfl rfl (aE (aR rfl (fun h27 => ?_) (fun h27 => ?_)))))))))))))
  · have h27p := of_decide_eq_true h27
    refine wp_skip (wp_seq (wp_block (wp_seq (aA (sg (aD (v := I 0) rfl (aE (wp_block (bH (fun (m : Nat) (f : Nat → Value) (W : World) => ∃ (q2 : List Int) (out2 : List Bool) (i : Nat) (v28 : Value) (fo29 : List Nat), BInv p.edges p.tasks.toNat t q2 out2 h i ∧ h < q2.length ∧ i ≤ p.edges.length ∧ m = p.edges.length - i ∧ f 2 = .pointer (some ⟨b1, 0, none⟩) ∧ f 5 = (.slice (some ⟨b7, 0, none⟩) p.tasks.toNat p.tasks.toNat) ∧ f 6 = v28 ∧ f 7 = I (h : Int) ∧ f 8 = I (i : Int) ∧ St w W ([Res.row (α := Int) 3 v28 q2 [], Res.own (α := List Bool) (.slice (some ⟨b7, 0, none⟩) p.tasks.toNat p.tasks.toNat) out2 fo29, Res.bx b1 [I p.prio, I p.most, I p.wait, I p.tasks, v6_0] 106])) (p.edges.length - 0) ?_ ?_)))))))))
    · exact ⟨q, out, 0, v19, fo20, hB, (by omega), (by omega), rfl, hs26_2, hs26_5, hs26_6, hs26_7, rfl, st25⟩
    intro m30 f31 W32 hJ33
    obtain ⟨q2, out2, i, v28, fo29, hB2, hh2, hi2, rfl, hs35_2, hs35_5, hs35_6, hs35_7, hs35_8, st34⟩ := hJ33
    have hBl2 := hB2.len_le
    have hol2 := hB2.len
    refine wp_seq (wp_seq (aA (sg (aB (v := I (i : Int)) hs35_8 (sg (aC dK hs35_2 (sg (aF eB rfl rfl (st34.get 2 rfl) (i := 4) rfl rfl (sg (aV cZ rfl h6_0 (sg (aY rfl rfl (aE (aR rfl (fun h36 => ?_) (fun h36 => ?_)))))))))))))))
    · have h36p := of_decide_eq_true h36
      refine wp_skip (wp_seq (wp_block (wp_seq (aA (sg (aC dK hs35_2 (sg (aF eB rfl rfl (st34.get 2 rfl) (i := 4) rfl rfl (sg (aB (v := I (i : Int)) hs35_8 ?_))))))))))
      have hi99fa3 : i < p.edges.length := (by omega)
      have hq_ := idx h6_0 (i := i) hi99fa3
      obtain ⟨b37, o37, cs37, f37, hp37, hr37, hc37, hm37⟩ := hq_
      refine sg (aG cZ rfl hp37 rfl rfl (sg (bY fN rfl rfl hr37 st34.below (Shape.len hc37) (sg (bN kT st34 ?_))))); intro b38 W39 hb40 st41
      refine sg (bU (cs := cs37) fN hc37 rfl rfl st41 rfl ?_); intro W43 st44
      refine aE (wp_seq ?_)
      have hk45 := hc37
      obtain ⟨he45, rfl, hok45⟩ := hk45
      have he45 : _ = [I (p.edges[i]'hi99fa3).from_, I (p.edges[i]'hi99fa3).to_] := he45
      subst he45
      have hi8f4b8 : h < q2.length := (by omega)
      rcases bd (decide ((p.edges[i]'hi99fa3).from_ = (q2[h]'hi8f4b8))) with h47 | h47
      · have h47p := of_decide_eq_false h47
        have hea := hi.at (k := i) (by omega)
        have hi8f4b8 : h < q2.length := (by omega)
        have hq_ := idx (dL (st44.get 1 rfl)) (i := h) hi8f4b8
        obtain ⟨b48, o48, cs48, f48, hp48, hr48, hc48, hm48⟩ := hq_
        have hk48 := hc48
        obtain ⟨rfl, rfl, hok48⟩ := hk48
        refine dI [Pl.is (.pointer (some ⟨b38, 0 + 0, none⟩)), Pl.is (I (p.edges[i]'hi99fa3).from_), Pl.is (v28) (Sl.yl (dL (st44.get 1 rfl))), Pl.is (I (h : Int)), Pl.is (.pointer (some ⟨b48, o48, none⟩)), Pl.is (I (q2[h]'hi8f4b8)), Pl.bool false, Pl.bool false, Pl.off, Pl.off, Pl.off, Pl.off, Pl.off, Pl.off, Pl.bool false] mix (by rfl) st44 ⟨(fun f W hst hbl hd hf => aC fU ((hf 9 rfl).trans (show _ = (.pointer (some ⟨b38, 0, none⟩) : Value) from rfl)) brq), (fun f W hst hbl hd hf => aF aJ rfl (hd 0 33 rfl rfl) (hst.get 0 rfl) (i := 0) rfl rfl brq), (fun f W hst hbl hd hf => aB (v := v28) ((hf 6 rfl).trans hs35_6) brq), (fun f W hst hbl hd hf => aB (v := I (h : Int)) ((hf 7 rfl).trans hs35_7) brq), (fun f W hst hbl hd hf => aG dF (hd 2 35 rfl rfl) hp48 (hd 3 36 rfl rfl) rfl brq), (fun f W hst hbl hd hf => aK aJ rfl (hd 4 37 rfl rfl) hr48 hbl (i := 0) rfl rfl brq), (fun f W hst hbl hd hf => bA (hd 1 34 rfl rfl) (hd 5 38 rfl rfl) ⟨Below.refl _ _, congrArg Value.bool h47⟩), (fun f W hst hbl hd hf => aB (v := .bool false) (hd 6 39 rfl rfl) brq), (fun f W hst hbl hd hf => rfl), (fun f W hst hbl hd hf => rfl), (fun f W hst hbl hd hf => rfl), (fun f W hst hbl hd hf => rfl), (fun f W hst hbl hd hf => rfl), (fun f W hst hbl hd hf => rfl), (fun f W hst hbl hd hf => aO (v := .bool false) (hd 7 40 rfl rfl) rfl brq), trivial⟩ ?_
        intro f49 W50 st51 hb52 hv53 hf54
        refine gX (hv53 14 47 (by decide) rfl) rfl (wp_skip (aA (sg (aB (v := I (i : Int)) ((hf54 8 rfl).trans hs35_8) (sg (aP rfl rfl (by (simp only [I64] at *; omega)) (sg (aD (v := I ((i : Int) + 1)) rfl (aE ?_)))))))))
        have st55 := st51.f3
        have st56 := st55.f3
        have st57 := st56.f3
        have st58 := st57.d3
        exact ⟨_, p.edges.length - (i + 1), (by omega), rfl, q2, out2, i + 1, v28, fo29, (hB2.skip1 hi (by omega) (by omega) h47p), (by omega), (by omega), rfl, ((hf54 2 rfl).trans hs35_2), ((hf54 5 rfl).trans hs35_5), ((hf54 6 rfl).trans hs35_6), ((hf54 7 rfl).trans hs35_7), rfl, st58⟩
      · have h47p := of_decide_eq_true h47
        have hea := hi.at (k := i) (by omega)
        have hi8f4b8 : h < q2.length := (by omega)
        have hq_ := idx (dL (st44.get 1 rfl)) (i := h) hi8f4b8
        obtain ⟨b59, o59, cs59, f59, hp59, hr59, hc59, hm59⟩ := hq_
        have hk59 := hc59
        obtain ⟨rfl, rfl, hok59⟩ := hk59
        have hi76505 : ((p.edges[i]'hi99fa3).to_).toNat < out2.length := (by omega)
        have hq_ := idx (bC (st44.get 2 rfl)) (i := ((p.edges[i]'hi99fa3).to_).toNat) hi76505
        obtain ⟨b60, o60, cs60, f60, hp60, hr60, hc60, hm60⟩ := hq_
        have hk60 := hc60
        obtain ⟨rfl, rfl, hok60⟩ := hk60
        refine dI [Pl.is (.pointer (some ⟨b38, 0 + 0, none⟩)), Pl.is (I (p.edges[i]'hi99fa3).from_), Pl.is (v28) (Sl.yl (dL (st44.get 1 rfl))), Pl.is (I (h : Int)), Pl.is (.pointer (some ⟨b59, o59, none⟩)), Pl.is (I (q2[h]'hi8f4b8)), Pl.bool true, Pl.bool true, Pl.is ((.slice (some ⟨b7, 0, none⟩) p.tasks.toNat p.tasks.toNat)) (Sl.yl (bC (st44.get 2 rfl))), Pl.is (.pointer (some ⟨b38, 0 + 1, none⟩)), Pl.is (I (p.edges[i]'hi99fa3).to_), Pl.is (.pointer (some ⟨b60, o60, none⟩)), Pl.bool (out2[((p.edges[i]'hi99fa3).to_).toNat]'hi76505), Pl.bool (!(out2[((p.edges[i]'hi99fa3).to_).toNat]'hi76505)), Pl.bool (!(out2[((p.edges[i]'hi99fa3).to_).toNat]'hi76505))] mix (by rfl) st44 ⟨(fun f W hst hbl hd hf => aC fU ((hf 9 rfl).trans (show _ = (.pointer (some ⟨b38, 0, none⟩) : Value) from rfl)) brq), (fun f W hst hbl hd hf => aF aJ rfl (hd 0 33 rfl rfl) (hst.get 0 rfl) (i := 0) rfl rfl brq), (fun f W hst hbl hd hf => aB (v := v28) ((hf 6 rfl).trans hs35_6) brq), (fun f W hst hbl hd hf => aB (v := I (h : Int)) ((hf 7 rfl).trans hs35_7) brq), (fun f W hst hbl hd hf => aG dF (hd 2 35 rfl rfl) hp59 (hd 3 36 rfl rfl) rfl brq), (fun f W hst hbl hd hf => aK aJ rfl (hd 4 37 rfl rfl) hr59 hbl (i := 0) rfl rfl brq), (fun f W hst hbl hd hf => bA (hd 1 34 rfl rfl) (hd 5 38 rfl rfl) ⟨Below.refl _ _, congrArg Value.bool h47⟩), (fun f W hst hbl hd hf => aB (v := .bool true) (hd 6 39 rfl rfl) brq), (fun f W hst hbl hd hf => aB (v := (.slice (some ⟨b7, 0, none⟩) p.tasks.toNat p.tasks.toNat)) ((hf 5 rfl).trans hs35_5) brq), (fun f W hst hbl hd hf => aC fO ((hf 9 rfl).trans (show _ = (.pointer (some ⟨b38, 0, none⟩) : Value) from rfl)) brq), (fun f W hst hbl hd hf => aF aJ rfl (hd 9 42 rfl rfl) (hst.get 0 rfl) (i := 1) rfl rfl brq), (fun f W hst hbl hd hf => aG qM (hd 8 41 rfl rfl) hp60 (hd 10 43 rfl rfl) (by omega) brq), (fun f W hst hbl hd hf => aK vT rfl (hd 11 44 rfl rfl) hr60 hbl (i := 0) rfl rfl brq), (fun f W hst hbl hd hf => bO (hd 12 45 rfl rfl) brq), (fun f W hst hbl hd hf => aN (v := .bool (!(out2[((p.edges[i]'hi99fa3).to_).toNat]'hi76505))) (hd 7 40 rfl rfl) (hd 13 46 rfl rfl) brq), trivial⟩ ?_
        intro f61 W62 st63 hb64 hv65 hf66
        refine aR (hv65 14 47 (by decide) rfl) (fun h67 => ?_) (fun h67 => ?_)
        · refine wp_seq (aA (sg (aB (v := (.slice (some ⟨b7, 0, none⟩) p.tasks.toNat p.tasks.toNat)) ((hf66 5 rfl).trans hs35_5) (sg (aC fO ((hf66 9 rfl).trans (show _ = (.pointer (some ⟨b38, 0, none⟩) : Value) from rfl)) (sg (aF aJ rfl rfl (st63.get 0 rfl) (i := 1) rfl rfl ?_)))))))
          have hi76505 : ((p.edges[i]'hi99fa3).to_).toNat < out2.length := (by omega)
          have hq_ := idx (bC (st63.get 2 rfl)) (i := ((p.edges[i]'hi99fa3).to_).toNat) hi76505
          obtain ⟨b68, o68, cs68, f68, hp68, hr68, hc68, hm68⟩ := hq_
          have hk68 := hc68
          obtain ⟨rfl, rfl, hok68⟩ := hk68
          refine sg (aG qM rfl hp68 rfl (by omega) ?_)
          have st69 := st63.f2
          refine sg (pH (α := Bool) (z := true) rfl (by kernel_rfl) rfl hp68 hi76505 rfl rfl rfl st69 (fun W => ⟨rfl, rfl, trivial⟩) ?_); intro fp70 W71 st72
          refine aE (aA (sg (aB (v := v28) ((hf66 6 rfl).trans hs35_6) (sg (aC fO ((hf66 9 rfl).trans (show _ = (.pointer (some ⟨b38, 0, none⟩) : Value) from rfl)) (sg (aF aJ rfl rfl (st72.get 1 rfl) (i := 1) rfl rfl (sg (bR (cs := [I (p.edges[i]'hi99fa3).to_]) (e := 3) (eG (v := I (p.edges[i]'hi99fa3).to_) rfl gK) (cG gH _ _ rfl rfl (by decide)) st72 ?_))))))))); intro b73 W74 hb75 st76
          have hxx := hB2.add1 hi (by omega) (by omega) (by assumption) (by omega) (by assumption)
          have hxl := hxx.len_le
          rw [List.length_append] at hxl
          have st78 := st76.f3
          refine sg (eC (ys := [(p.edges[i]'hi99fa3).to_]) gH rfl rfl rfl st78 (Elems.ic (by simp only [I64]; omega) Elems.i0) (by unfold maxLen; omega) (by omega) ?_); intro v79 W80 st81
          refine sg (aD (v := v79) rfl (aE (aA (sg (aB (v := I (i : Int)) ((hf66 8 rfl).trans hs35_8) (sg (aP rfl rfl (by (simp only [I64] at *; omega)) (sg (aD (v := I ((i : Int) + 1)) rfl (aE ?_))))))))))
          have st82 := st81.f3
          have st83 := st82.f2
          have st84 := st83.f2
          have st85 := st84.d3
          exact ⟨_, p.edges.length - (i + 1), (by omega), rfl, q2 ++ [(p.edges[i]'hi99fa3).to_], (out2).set ((p.edges[i]'hi99fa3).to_).toNat true, i + 1, v79, fp70, (hB2.add1 hi (by omega) (by omega) h47p (by omega) h67), (by rw [List.length_append]; omega), (by omega), rfl, ((hf66 2 rfl).trans hs35_2), ((hf66 5 rfl).trans hs35_5), rfl, ((hf66 7 rfl).trans hs35_7), rfl, st85⟩
        · refine wp_skip (aA (sg (aB (v := I (i : Int)) ((hf66 8 rfl).trans hs35_8) (sg (aP rfl rfl (by (simp only [I64] at *; omega)) (sg (aD (v := I ((i : Int) + 1)) rfl (aE ?_))))))))
          have st86 := st63.f3
          have st87 := st86.f3
          have st88 := st87.f3
          have st89 := st88.d3
          exact ⟨_, p.edges.length - (i + 1), (by omega), rfl, q2, out2, i + 1, v28, fo29, (hB2.skip2 hi (by omega) (by omega) (by omega) h67), (by omega), (by omega), rfl, ((hf66 2 rfl).trans hs35_2), ((hf66 5 rfl).trans hs35_5), ((hf66 6 rfl).trans hs35_6), ((hf66 7 rfl).trans hs35_7), rfl, st89⟩
    · have h36p := of_decide_eq_false h36
      refine wp_exit (aA (sg (aB (v := I (h : Int)) hs35_7 (sg (aP rfl rfl (by (simp only [I64] at *; omega)) (sg (aD (v := I ((h : Int) + 1)) rfl (aE ?_))))))))
      exact ⟨_, p.tasks.toNat + 2 - (h + 1), (by omega), rfl, q2, out2, h + 1, v28, fo29, (hB2.next (by omega)), (by omega), rfl, hs35_2, hs35_5, hs35_6, rfl, st34⟩
  · have h27p := of_decide_eq_false h27
    refine wp_exit (wp_seq (aA (sg (aB (v := (.slice (some ⟨b7, 0, none⟩) p.tasks.toNat p.tasks.toNat)) hs26_5 (sg (aD (v := (.slice (some ⟨b7, 0, none⟩) p.tasks.toNat p.tasks.toNat)) rfl (aE (wp_ret ?_)))))))); repeat first|refine aH ?_|refine aI ?_
    refine aW Tryz.results213 rfl ?_
    have st90 := st25.f1
    have hall := hB.all (by omega)
    rw [hall] at st90
    exact ⟨_, _, rfl, st90.only 0 rfl⟩
set_option maxHeartbeats 2000000 in
theorem ManyS (w : World) {p : Plan} {cs : List Value} {fp : List Nat} (hc : Shape.C w cs p fp) :
    Calls Tryz.prog 212 #[.agg cs.toArray] w fun e w' => e = .returned (.bool (pB (dQ p))) ∧ St w w' [] := by
  refine dU Tryz.func212 rfl Tryz.ntmps212 (by decide) (wp_seq (aA (sg (aQ (cs := cs) rfl (St.start w) ?_)))); intro b1 W2 hb3 st4
  refine sg (aD (v := .bool false) rfl (aE (wp_seq (aA (sg (aC eK rfl ?_))))))
  have hk6 := hc
  obtain ⟨v6_0, g6_0, rfl, hok6, h6_0, rfl⟩ := hk6
  refine sg (aF aJ rfl rfl (st4.get 0 rfl) (i := 3) rfl rfl (sg (bS Tryz.func43 rfl rfl rfl rfl ((fK W2 p.tasks 1 12).mono ?_)))); rintro _ W7 ⟨rfl, hk8⟩; refine ⟨_, rfl, ?_⟩
  have st9 := St.call st4 hk8
  refine sg (bO rfl (sg (aB (v := .bool (!(inB p.tasks 1 12))) rfl ?_)))
  rcases bd (!(inB p.tasks 1 12)) with h11 | h11
  · have h11p := inB_iff'.1 (aX h11)
    refine sgo 7 rfl (by decide) (aL rfl h11) (aC dK rfl (sgo 7 rfl (by decide) (aL rfl h11) (aF eB rfl rfl (st9.get 0 rfl) (i := 4) rfl rfl (sgo 7 rfl (by decide) (aL rfl h11) (aV cZ rfl h6_0 (sgo 7 rfl (by decide) (aL rfl h11) (fV rfl rfl (sg (aO (v := .bool (decide (30 < (p.edges.length : Int)))) ((rfl : _ = (.bool (!(inB p.tasks 1 12)) : Value)).trans (congrArg Value.bool h11)) rfl (sg (aB (v := .bool (decide (30 < (p.edges.length : Int)))) rfl ?_)))))))))))
    rcases bd (decide (30 < (p.edges.length : Int))) with h12 | h12
    · have h12p := of_decide_eq_false h12
      refine sgo 13 rfl (by decide) (aL rfl h12) (aC gB rfl (sgo 13 rfl (by decide) (aL rfl h12) (aF aJ rfl rfl (st9.get 0 rfl) (i := 0) rfl rfl (sgo 13 rfl (by decide) (aL rfl h12) (bS Tryz.func43 rfl rfl rfl rfl ((fK W7 p.prio 0 9).mono ?_)))))); rintro _ W13 ⟨rfl, hk14⟩; refine ⟨_, rfl, ?_⟩
      have st15 := St.call st9 hk14
      refine sgo 13 rfl (by decide) (aL rfl h12) (bO rfl (sg (aO (v := .bool (!(inB p.prio 0 9))) ((rfl : _ = (.bool (decide (30 < (p.edges.length : Int))) : Value)).trans (congrArg Value.bool h12)) rfl (sg (aB (v := .bool (!(inB p.prio 0 9))) rfl ?_)))))
      rcases bd (!(inB p.prio 0 9)) with h17 | h17
      · have h17p := inB_iff'.1 (aX h17)
        refine sgo 19 rfl (by decide) (aL rfl h17) (aC fG rfl (sgo 19 rfl (by decide) (aL rfl h17) (aF aJ rfl rfl (st15.get 0 rfl) (i := 1) rfl rfl (sgo 19 rfl (by decide) (aL rfl h17) (bS Tryz.func43 rfl rfl rfl rfl ((fK W13 p.most 1 5).mono ?_)))))); rintro _ W18 ⟨rfl, hk19⟩; refine ⟨_, rfl, ?_⟩
        have st20 := St.call st15 hk19
        refine sgo 19 rfl (by decide) (aL rfl h17) (bO rfl (sg (aO (v := .bool (!(inB p.most 1 5))) ((rfl : _ = (.bool (!(inB p.prio 0 9)) : Value)).trans (congrArg Value.bool h17)) rfl (sg (aB (v := .bool (!(inB p.most 1 5))) rfl ?_)))))
        rcases bd (!(inB p.most 1 5)) with h22 | h22
        · have h22p := inB_iff'.1 (aX h22)
          refine sgo 25 rfl (by decide) (aL rfl h22) (aC gM rfl (sgo 25 rfl (by decide) (aL rfl h22) (aF aJ rfl rfl (st20.get 0 rfl) (i := 2) rfl rfl (sgo 25 rfl (by decide) (aL rfl h22) (bS Tryz.func43 rfl rfl rfl rfl ((fK W18 p.wait 1 20).mono ?_)))))); rintro _ W23 ⟨rfl, hk24⟩; refine ⟨_, rfl, ?_⟩
          have st25 := St.call st20 hk24
          refine sgo 25 rfl (by decide) (aL rfl h22) (bO rfl (sg (aO (v := .bool (!(inB p.wait 1 20))) ((rfl : _ = (.bool (!(inB p.most 1 5)) : Value)).trans (congrArg Value.bool h22)) rfl (sg (aD (v := .bool (!(inB p.wait 1 20))) rfl (aE ?_))))))
          rcases bd (!(inB p.wait 1 20)) with h27 | h27
          · have h27p := inB_iff'.1 (aX h27)
            refine wp_ret ?_; repeat first|refine aH ?_|refine aI ?_
            refine aW Tryz.results212 ((rfl : _ = (.bool (!(inB p.wait 1 20)) : Value)).trans (congrArg Value.bool h27)) ?_
            exact ⟨(congrArg (fun z => Ending.returned (.bool z)) (by rw [dO (by unfold dQ; omega)])), st25.bare⟩
          · have h27p := dN (aS h27)
            refine wp_ret ?_; repeat first|refine aH ?_|refine aI ?_
            refine aW Tryz.results212 ((rfl : _ = (.bool (!(inB p.wait 1 20)) : Value)).trans (congrArg Value.bool h27)) ?_
            exact ⟨(congrArg (fun z => Ending.returned (.bool z)) (by rw [gU (by unfold dQ; omega)])), st25.bare⟩
        · have h22p := dN (aS h22)
          iterate 4 refine sgf 25 rfl (by decide) (bF rfl h22) ?_
          refine sg (aN (v := .bool true) ((rfl : _ = (.bool (!(inB p.most 1 5)) : Value)).trans (congrArg Value.bool h22)) rfl (sg (aD (v := .bool true) rfl (aE (wp_ret ?_))))); repeat first|refine aH ?_|refine aI ?_
          refine aW Tryz.results212 rfl ?_
          exact ⟨(congrArg (fun z => Ending.returned (.bool z)) (by rw [gU (by unfold dQ; omega)])), st20.bare⟩
      · have h17p := dN (aS h17)
        iterate 4 refine sgf 19 rfl (by decide) (bF rfl h17) ?_
        refine sg (aN (v := .bool true) ((rfl : _ = (.bool (!(inB p.prio 0 9)) : Value)).trans (congrArg Value.bool h17)) rfl (sg (aB (v := .bool true) rfl ?_)))
        iterate 4 refine sgf 25 rfl (by decide) (bF rfl rfl) ?_
        refine sg (aN (v := .bool true) rfl rfl (sg (aD (v := .bool true) rfl (aE (wp_ret ?_))))); repeat first|refine aH ?_|refine aI ?_
        refine aW Tryz.results212 rfl ?_
        exact ⟨(congrArg (fun z => Ending.returned (.bool z)) (by rw [gU (by unfold dQ; omega)])), st15.bare⟩
    · have h12p := of_decide_eq_true h12
      iterate 4 refine sgf 13 rfl (by decide) (bF rfl h12) ?_
      refine sg (aN (v := .bool true) ((rfl : _ = (.bool (decide (30 < (p.edges.length : Int))) : Value)).trans (congrArg Value.bool h12)) rfl (sg (aB (v := .bool true) rfl ?_)))
      iterate 4 refine sgf 19 rfl (by decide) (bF rfl rfl) ?_
      refine sg (aN (v := .bool true) rfl rfl (sg (aB (v := .bool true) rfl ?_)))
      iterate 4 refine sgf 25 rfl (by decide) (bF rfl rfl) ?_
      refine sg (aN (v := .bool true) rfl rfl (sg (aD (v := .bool true) rfl (aE (wp_ret ?_))))); repeat first|refine aH ?_|refine aI ?_
      refine aW Tryz.results212 rfl ?_
      exact ⟨(congrArg (fun z => Ending.returned (.bool z)) (by rw [gU (by unfold dQ; omega)])), st9.bare⟩
  · have h11p := dN (aS h11)
    iterate 4 refine sgf 7 rfl (by decide) (bF rfl h11) ?_
    refine sg (aN (v := .bool true) ((rfl : _ = (.bool (!(inB p.tasks 1 12)) : Value)).trans (congrArg Value.bool h11)) rfl (sg (aB (v := .bool true) rfl ?_)))
    iterate 4 refine sgf 13 rfl (by decide) (bF rfl rfl) ?_
    refine sg (aN (v := .bool true) rfl rfl (sg (aB (v := .bool true) rfl ?_)))
    iterate 4 refine sgf 19 rfl (by decide) (bF rfl rfl) ?_
    refine sg (aN (v := .bool true) rfl rfl (sg (aB (v := .bool true) rfl ?_)))
    iterate 4 refine sgf 25 rfl (by decide) (bF rfl rfl) ?_
    refine sg (aN (v := .bool true) rfl rfl (sg (aD (v := .bool true) rfl (aE (wp_ret ?_))))); repeat first|refine aH ?_|refine aI ?_
    refine aW Tryz.results212 rfl ?_
    exact ⟨(congrArg (fun z => Ending.returned (.bool z)) (by rw [gU (by unfold dQ; omega)])), st9.bare⟩
set_option maxHeartbeats 2000000 in
theorem rX (w : World) {p : Plan} {cs : List Value} {fp : List Nat} (hc : Shape.C w cs p fp) :
    Calls Tryz.prog 160 #[.agg cs.toArray] w fun e w' => e = .returned (I (dC p)) ∧ St w w' [] := by
  refine dU Tryz.func160 rfl Tryz.ntmps160 (by decide) (wp_seq (aA (sg (aQ (cs := cs) rfl (St.start w) ?_)))); intro b1 W2 hb3 st4
  refine sg (aD (v := I 0) rfl (aE (wp_seq (wp_seq (aA (sg (aC eK rfl ?_)))))))
  have hk6 := hc
  obtain ⟨v6_0, g6_0, rfl, hok6, h6_0, rfl⟩ := hk6
  refine sg (aF aJ rfl rfl (st4.get 0 rfl) (i := 3) rfl rfl (sg (bS Tryz.func47 rfl rfl rfl rfl ((eL W2 p.tasks 1 12).mono ?_)))); rintro _ W7 ⟨rfl, hk8⟩; refine ⟨_, rfl, ?_⟩
  have st9 := St.call st4 hk8
  refine sg (bO rfl (sg (aB (v := .bool (!(inB p.tasks 1 12))) rfl ?_)))
  rcases bd (!(inB p.tasks 1 12)) with h11 | h11
  · have h11p := inB_iff'.1 (aX h11)
    refine sgo 13 rfl (by decide) (aL rfl h11) (aC dK rfl (sgo 13 rfl (by decide) (aL rfl h11) (aF eB rfl rfl (st9.get 0 rfl) (i := 4) rfl rfl (sgo 13 rfl (by decide) (aL rfl h11) (aV cZ rfl h6_0 (sgo 13 rfl (by decide) (aL rfl h11) (fV rfl rfl (sg (aO (v := .bool (decide (30 < (p.edges.length : Int)))) ((rfl : _ = (.bool (!(inB p.tasks 1 12)) : Value)).trans (congrArg Value.bool h11)) rfl (sg (aB (v := .bool (decide (30 < (p.edges.length : Int)))) rfl ?_)))))))))))
    rcases bd (decide (30 < (p.edges.length : Int))) with h12 | h12
    · have h12p := of_decide_eq_false h12
      refine sgo 19 rfl (by decide) (aL rfl h12) (aC gB rfl (sgo 19 rfl (by decide) (aL rfl h12) (aF aJ rfl rfl (st9.get 0 rfl) (i := 0) rfl rfl (sgo 19 rfl (by decide) (aL rfl h12) (bS Tryz.func47 rfl rfl rfl rfl ((eL W7 p.prio 0 9).mono ?_)))))); rintro _ W13 ⟨rfl, hk14⟩; refine ⟨_, rfl, ?_⟩
      have st15 := St.call st9 hk14
      refine sgo 19 rfl (by decide) (aL rfl h12) (bO rfl (sg (aO (v := .bool (!(inB p.prio 0 9))) ((rfl : _ = (.bool (decide (30 < (p.edges.length : Int))) : Value)).trans (congrArg Value.bool h12)) rfl (sg (aB (v := .bool (!(inB p.prio 0 9))) rfl ?_)))))
      rcases bd (!(inB p.prio 0 9)) with h17 | h17
      · have h17p := inB_iff'.1 (aX h17)
        refine sgo 25 rfl (by decide) (aL rfl h17) (aC fG rfl (sgo 25 rfl (by decide) (aL rfl h17) (aF aJ rfl rfl (st15.get 0 rfl) (i := 1) rfl rfl (sgo 25 rfl (by decide) (aL rfl h17) (bS Tryz.func47 rfl rfl rfl rfl ((eL W13 p.most 1 5).mono ?_)))))); rintro _ W18 ⟨rfl, hk19⟩; refine ⟨_, rfl, ?_⟩
        have st20 := St.call st15 hk19
        refine sgo 25 rfl (by decide) (aL rfl h17) (bO rfl (sg (aO (v := .bool (!(inB p.most 1 5))) ((rfl : _ = (.bool (!(inB p.prio 0 9)) : Value)).trans (congrArg Value.bool h17)) rfl (sg (aB (v := .bool (!(inB p.most 1 5))) rfl ?_)))))
        rcases bd (!(inB p.most 1 5)) with h22 | h22
        · have h22p := inB_iff'.1 (aX h22)
          refine sgo 31 rfl (by decide) (aL rfl h22) (aC gM rfl (sgo 31 rfl (by decide) (aL rfl h22) (aF aJ rfl rfl (st20.get 0 rfl) (i := 2) rfl rfl (sgo 31 rfl (by decide) (aL rfl h22) (bS Tryz.func47 rfl rfl rfl rfl ((eL W18 p.wait 1 20).mono ?_)))))); rintro _ W23 ⟨rfl, hk24⟩; refine ⟨_, rfl, ?_⟩
          have st25 := St.call st20 hk24
          refine sgo 31 rfl (by decide) (aL rfl h22) (bO rfl (sg (aO (v := .bool (!(inB p.wait 1 20))) ((rfl : _ = (.bool (!(inB p.most 1 5)) : Value)).trans (congrArg Value.bool h22)) rfl (aE (aR rfl (fun h27 => ?_) (fun h27 => ?_))))))
          · have h27p := dN (aS h27)
            refine wp_seq (aA (sg (aD (v := I 1) rfl (aE (wp_ret ?_))))); repeat first|refine aH ?_|refine aI ?_
            refine aW Tryz.results160 rfl ?_
            exact ⟨(congrArg (fun z => Ending.returned (I z)) (by rw [pf1 (by unfold dQ; omega)])), st25.bare⟩
          · have h27p := inB_iff'.1 (aX h27)
            refine wp_skip (wp_seq (wp_seq (aA ?_)))
            have hM : ¬ dQ p := by unfold dQ; omega
            have hMb := pM hM
            refine sg (aC dK rfl (sg (aF eB rfl rfl (st25.get 0 rfl) (i := 4) rfl rfl (sg (aV cZ rfl h6_0 (sg (aB (v := I 0) rfl (aE (wp_block (bH (fun (m : Nat) (f : Nat → Value) (W : World) => ∃ (k : Nat), k ≤ p.edges.length ∧ EdgesIn p.tasks.toNat (p.edges.take k) ∧ m = p.edges.length - k ∧ f 1 = .pointer (some ⟨b1, 0, none⟩) ∧ f 38 = v6_0 ∧ f 39 = I (p.edges.length : Int) ∧ f 40 = I (k : Int) ∧ St w W ([Res.bx b1 [I p.prio, I p.most, I p.wait, I p.tasks, v6_0] 106])) (p.edges.length - 0) ?_ ?_))))))))))
            · exact ⟨0, (by omega), EdgesIn.nil, rfl, rfl, rfl, rfl, rfl, st25⟩
            intro m28 f29 W30 hJ31
            obtain ⟨k, hk, hEk, rfl, hs33_1, hs33_38, hs33_39, hs33_40, st32⟩ := hJ31
            refine wp_seq (aA (sg (aY hs33_40 hs33_39 (aE (wp_seq (aR rfl (fun h34 => ?_) (fun h34 => ?_)))))))
            · have h34p := of_decide_eq_true h34
              refine wp_skip (wp_seq (wp_block (wp_seq (aA ?_))))
              have hiab516 : k < p.edges.length := (by omega)
              have hq_ := idx h6_0 (i := k) hiab516
              obtain ⟨b35, o35, cs35, f35, hp35, hr35, hc35, hm35⟩ := hq_
              refine sg (aG cZ hs33_38 hp35 hs33_40 rfl (sg (bY fN rfl rfl hr35 st32.below (Shape.len hc35) (sg (bN kT st32 ?_))))); intro b36 W37 hb38 st39
              refine sg (bU (cs := cs35) fN hc35 rfl rfl st39 rfl ?_); intro W41 st42
              refine aE (wp_seq (aA (sg (aC fU rfl ?_))))
              have hk43 := hc35
              obtain ⟨he43, rfl, hok43⟩ := hk43
              have he43 : _ = [I (p.edges[k]'hiab516).from_, I (p.edges[k]'hiab516).to_] := he43
              subst he43
              refine sg (aF aJ rfl rfl (st42.get 0 rfl) (i := 0) rfl rfl (sg (aC eK hs33_1 (sg (aF aJ rfl rfl (st42.get 1 rfl) (i := 3) rfl rfl (sg (fI rfl rfl (by (simp only [I64] at *; omega)) (sg (bS Tryz.func47 rfl rfl rfl rfl ((eL W41 (p.edges[k]'hiab516).from_ 0 (p.tasks - 1)).mono ?_)))))))))); rintro _ W44 ⟨rfl, hk45⟩; refine ⟨_, rfl, ?_⟩
              have st46 := St.call st42 hk45
              refine sg (bO rfl (sg (aB (v := .bool (!(inB (p.edges[k]'hiab516).from_ 0 (p.tasks - 1)))) rfl ?_)))
              rcases bd (!(inB (p.edges[k]'hiab516).from_ 0 (p.tasks - 1))) with h48 | h48
              · have h48p := inB_iff'.1 (aX h48)
                refine sgo 51 rfl (by decide) (aL rfl h48) (aC fO rfl (sgo 51 rfl (by decide) (aL rfl h48) (aF aJ rfl rfl (st46.get 0 rfl) (i := 1) rfl rfl (sgo 51 rfl (by decide) (aL rfl h48) (aC eK hs33_1 (sgo 51 rfl (by decide) (aL rfl h48) (aF aJ rfl rfl (st46.get 1 rfl) (i := 3) rfl rfl (sgo 51 rfl (by decide) (aL rfl h48) (fI rfl rfl (by (simp only [I64] at *; omega)) (sgo 51 rfl (by decide) (aL rfl h48) (bS Tryz.func47 rfl rfl rfl rfl ((eL W44 (p.edges[k]'hiab516).to_ 0 (p.tasks - 1)).mono ?_)))))))))))); rintro _ W49 ⟨rfl, hk50⟩; refine ⟨_, rfl, ?_⟩
                have st51 := St.call st46 hk50
                refine sgo 51 rfl (by decide) (aL rfl h48) (bO rfl (sg (aO (v := .bool (!(inB (p.edges[k]'hiab516).to_ 0 (p.tasks - 1)))) ((rfl : _ = (.bool (!(inB (p.edges[k]'hiab516).from_ 0 (p.tasks - 1))) : Value)).trans (congrArg Value.bool h48)) rfl (aE (aR rfl (fun h53 => ?_) (fun h53 => ?_))))))
                · have h53p := dN (aS h53)
                  refine wp_seq (aA (sg (aD (v := I 2) rfl (aE (wp_ret ?_))))); repeat first|refine aH ?_|refine aI ?_
                  refine aW Tryz.results160 rfl ?_
                  have hnE : ¬ EdgesIn p.tasks.toNat p.edges := fun hE => by have hea := hE.at (k := k) (by omega); omega
                  exact ⟨(congrArg (fun z => Ending.returned (I z)) (by rw [pf2 hM hnE])), st51.bare⟩
                · have h53p := inB_iff'.1 (aX h53)
                  refine wp_skip (aA (sg (aP hs33_40 rfl (by (simp only [I64] at *; omega)) (sg (aB (v := I ((k : Int) + 1)) rfl (aE ?_))))))
                  have st54 := st51.f1
                  have st55 := st54.d1
                  exact ⟨_, p.edges.length - (k + 1), (by omega), rfl, k + 1, (by omega), (hEk.step (by omega) (by omega)), rfl, hs33_1, hs33_38, hs33_39, rfl, st55⟩
              · have h48p := dN (aS h48)
                iterate 7 refine sgf 51 rfl (by decide) (bF rfl h48) ?_
                refine sg (aN (v := .bool true) ((rfl : _ = (.bool (!(inB (p.edges[k]'hiab516).from_ 0 (p.tasks - 1))) : Value)).trans (congrArg Value.bool h48)) rfl (aE (gV rfl rfl (wp_seq (aA (sg (aD (v := I 2) rfl (aE (wp_ret ?_))))))))); repeat first|refine aH ?_|refine aI ?_
                refine aW Tryz.results160 rfl ?_
                have hnE : ¬ EdgesIn p.tasks.toNat p.edges := fun hE => by have hea := hE.at (k := k) (by omega); omega
                exact ⟨(congrArg (fun z => Ending.returned (I z)) (by rw [pf2 hM hnE])), st46.bare⟩
            · have h34p := of_decide_eq_false h34
              refine wp_exit (wp_seq (wp_seq (aA ?_)))
              have hE : EdgesIn p.tasks.toNat p.edges := by rw [show k = p.edges.length by omega, List.take_length] at hEk; exact hEk
              refine sg (aC dK hs33_1 (sg (aF eB rfl rfl (st32.get 0 rfl) (i := 4) rfl rfl (sg (aV cZ rfl h6_0 (sg (aB (v := I 0) rfl (aE (wp_block (bH (fun (m : Nat) (f : Nat → Value) (W : World) => ∃ (k2 : Nat), k2 ≤ p.edges.length ∧ (p.edges.take k2).Nodup ∧ m = p.edges.length - k2 ∧ f 1 = .pointer (some ⟨b1, 0, none⟩) ∧ f 62 = v6_0 ∧ f 63 = I (p.edges.length : Int) ∧ f 64 = I (k2 : Int) ∧ St w W ([Res.bx b1 [I p.prio, I p.most, I p.wait, I p.tasks, v6_0] 106])) (p.edges.length - 0) ?_ ?_))))))))))
              · exact ⟨0, (by omega), List.nodup_nil, rfl, hs33_1, rfl, rfl, rfl, st32⟩
              intro m56 f57 W58 hJ59
              obtain ⟨k2, hk2, hNk, rfl, hs61_1, hs61_62, hs61_63, hs61_64, st60⟩ := hJ59
              refine wp_seq (aA (sg (aY hs61_64 hs61_63 (aE (wp_seq (aR rfl (fun h62 => ?_) (fun h62 => ?_)))))))
              · have h62p := of_decide_eq_true h62
                refine wp_skip (wp_seq (wp_block (wp_seq (aA (sg (aB (v := I (k2 : Int)) hs61_64 ?_))))))
                have hi9adb2 : k2 < p.edges.length := (by omega)
                have hq_ := idx h6_0 (i := k2) hi9adb2
                obtain ⟨b63, o63, cs63, f63, hp63, hr63, hc63, hm63⟩ := hq_
                refine sg (aG cZ hs61_62 hp63 hs61_64 rfl (sg (bY fN rfl rfl hr63 st60.below (Shape.len hc63) (sg (bN kT st60 ?_))))); intro b64 W65 hb66 st67
                refine sg (aD (v := I (k2 : Int)) rfl (sg (bU (cs := cs63) fN hc63 rfl rfl st67 rfl ?_))); intro W69 st70
                refine aE (wp_seq (dI [Pl.is (.pointer (some ⟨b1, 0 + 4, none⟩)), Pl.is (v6_0) (Sl.yl h6_0), Pl.is (I (k2 : Int)), Pl.ssl (α := Edge) (p.edges.take k2), Pl.is (.agg cs63.toArray), Pl.bool (decide ((p.edges[k2]'hi9adb2) ∈ (p.edges.take k2)))] mix (by rfl) st70 ⟨(fun f W hst hbl hd hf => aC dK ((hf 1 rfl).trans hs61_1) brq), (fun f W hst hbl hd hf => aF eB rfl (hd 0 69 rfl rfl) (hst.get 1 rfl) (i := 4) rfl rfl brq), (fun f W hst hbl hd hf => aB (v := I (k2 : Int)) ((hf 5 rfl).trans (show _ = I (k2 : Int) from rfl)) brq), (fun f W hst hbl hd hf => mD (h := k2) cZ (hd 1 70 rfl rfl) h6_0 (hd 2 71 rfl rfl) rfl (by omega) (fun v_ g_ h_ hm_ => ⟨Below.refl _ _, g_, h_.below hst.below⟩)), (fun f W hst hbl hd hf => bE fN rfl ((hf 6 rfl).trans (show _ = (.pointer (some ⟨b64, 0, none⟩) : Value) from rfl)) (hst.get 0 rfl) (Shape.len hc63) brq), (fun f W hst hbl hd hf => by obtain ⟨fp71, h71⟩ := hd 3 72 rfl rfl; exact aZ Tryz.func215 rfl rfl (hd 4 73 rfl rfl) ((ContE W h71 hc63).mono (by rintro e W2 ⟨rfl, hk⟩; exact ⟨_, rfl, hk.below, rfl⟩))), trivial⟩ ?_))
                intro f72 W73 st74 hb75 hv76 hf77
                refine aR (hv76 5 74 (by decide) rfl) (fun h78 => ?_) (fun h78 => ?_)
                · have h78p := of_decide_eq_true h78
                  refine wp_seq (aA (sg (aD (v := I 3) rfl (aE (wp_ret ?_))))); repeat first|refine aH ?_|refine aI ?_
                  refine aW Tryz.results160 rfl ?_
                  have hnN : ¬ p.edges.Nodup := oM (k := k2) (by omega) (by assumption)
                  exact ⟨(congrArg (fun z => Ending.returned (I z)) (by rw [pf3 hM hE hnN])), st74.bare⟩
                · have h78p := of_decide_eq_false h78
                  refine wp_skip (aA (sg (aP ((hf77 64 rfl).trans hs61_64) rfl (by (simp only [I64] at *; omega)) (sg (aB (v := I ((k2 : Int) + 1)) rfl (aE ?_))))))
                  have st79 := st74.f1
                  have st80 := st79.d1
                  exact ⟨_, p.edges.length - (k2 + 1), (by omega), rfl, k2 + 1, (by omega), (rA hNk (by omega) (by assumption)), rfl, ((hf77 1 rfl).trans hs61_1), ((hf77 62 rfl).trans hs61_62), ((hf77 63 rfl).trans hs61_63), rfl, st80⟩
              · have h62p := of_decide_eq_false h62
                refine wp_exit (wp_seq (wp_seq (aA ?_)))
                have hN : p.edges.Nodup := by rw [show k2 = p.edges.length by omega, List.take_length] at hNk; exact hNk
                refine sg (aU (cs := [I p.prio, I p.most, I p.wait, I p.tasks, v6_0]) fY rfl hs61_1 (st60.get 0 rfl) rfl rfl (sg (bI Tryz.func216 rfl rfl ((WaitsI W58 (cA hc st60.below) (by omega) (by omega) hE).mono ?_)))); rintro _ W83 ⟨v81, fp81, rfl, hk84⟩; refine ⟨_, rfl, ?_⟩
                have st85 := St.call st60 hk84
                have hwl : (eP (eH p.edges (List.replicate p.tasks.toNat 0) p.tasks.toNat)).length = p.tasks.toNat := by rw [tG, iW, List.length_replicate]
                have hbd := sJ (n := p.tasks.toNat) (by omega) hE p.tasks.toNat
                refine sg (aV dF rfl (bC (st85.get 0 rfl)) (sg (aB (v := I 0) rfl (aE (wp_block (bH (fun (m : Nat) (f : Nat → Value) (W : World) => ∃ (k3 : Nat), k3 ≤ p.tasks.toNat ∧ (∀ t : Nat, t < k3 → ¬ Rch p.edges (t : Int) (t : Int)) ∧ m = p.tasks.toNat - k3 ∧ f 77 = v81 ∧ f 78 = I ((eP (eH p.edges (List.replicate p.tasks.toNat 0) p.tasks.toNat)).length : Int) ∧ f 79 = I (k3 : Int) ∧ St w W ([Res.own (α := List Int) v81 (eP (eH p.edges (List.replicate p.tasks.toNat 0) p.tasks.toNat)) fp81, Res.bx b1 [I p.prio, I p.most, I p.wait, I p.tasks, v6_0] 106])) (p.tasks.toNat - 0) ?_ ?_))))))
                · exact ⟨0, (by omega), (fun t ht => absurd ht (Nat.not_lt_zero t)), rfl, rfl, rfl, rfl, st85⟩
                intro m87 f88 W89 hJ90
                obtain ⟨k3, hk3, hW, rfl, hs92_77, hs92_78, hs92_79, st91⟩ := hJ90
                refine wp_seq (aA (sg (aY hs92_79 hs92_78 (aE (wp_seq (aR rfl (fun h93 => ?_) (fun h93 => ?_)))))))
                · have h93p := of_decide_eq_true h93
                  refine wp_skip (wp_seq (wp_block (wp_seq (aA (sg (aB (v := I (k3 : Int)) hs92_79 ?_))))))
                  have hie76f8 : k3 < (eP (eH p.edges (List.replicate p.tasks.toNat 0) p.tasks.toNat)).length := (by omega)
                  have hq_ := idx (bC (st91.get 0 rfl)) (i := k3) hie76f8
                  obtain ⟨b94, o94, cs94, f94, hp94, hr94, hc94, hm94⟩ := hq_
                  have hk94 := hc94
                  obtain ⟨rfl, rfl, hok94⟩ := hk94
                  refine sg (aG dF hs92_77 hp94 hs92_79 rfl (sg (aK aJ rfl rfl hr94 (Below.refl _ _) (i := 0) rfl rfl (sg (aD (v := I (k3 : Int)) rfl (sg (aD (v := I ((eP (eH p.edges (List.replicate p.tasks.toNat 0) p.tasks.toNat))[k3]'hie76f8)) rfl (aE (wp_seq (aA (sg (aB (v := I ((eP (eH p.edges (List.replicate p.tasks.toNat 0) p.tasks.toNat))[k3]'hie76f8)) rfl (sg (aB (v := I (k3 : Int)) rfl (sg (stp_shrI rfl rfl (jB hbd _ _).1 (by omega) (sg (stp_andI rfl rfl (shrI_rng (jB hbd _ _)) (by omega) (sg (bA rfl rfl ?_))))))))))))))))))))
                  refine aE (aR rfl (fun h95 => ?_) (fun h95 => ?_))
                  · have h95p := of_decide_eq_true h95
                    refine wp_seq (aA (sg (aD (v := I 4) rfl (aE (wp_ret ?_))))); repeat first|refine aH ?_|refine aI ?_
                    refine aW Tryz.results160 rfl ?_
                    have hC : jQ p := ⟨k3, (by omega), (sA hE (by omega) _).1 (by assumption)⟩
                    exact ⟨(congrArg (fun z => Ending.returned (I z)) (by rw [pf4 hM hE hN hC])), st91.bare⟩
                  · have h95p := of_decide_eq_false h95
                    refine wp_skip (aA (sg (aP hs92_79 rfl (by (simp only [I64] at *; omega)) (sg (aB (v := I ((k3 : Int) + 1)) rfl (aE ?_))))))
                    exact ⟨_, p.tasks.toNat - (k3 + 1), (by omega), rfl, k3 + 1, (by omega), (fun t ht => by rcases Nat.lt_succ_iff_lt_or_eq.1 ht with h1 | rfl; exact hW t h1; exact fun hr => absurd ((sA hE (by omega) _).2 hr) h95p), rfl, hs92_77, hs92_78, rfl, st91⟩
                · have h93p := of_decide_eq_false h93
                  refine wp_exit (wp_seq (aA (sg (aD (v := I 0) rfl (aE (wp_ret ?_)))))); repeat first|refine aH ?_|refine aI ?_
                  refine aW Tryz.results160 rfl ?_
                  have hC : ¬ jQ p := by rintro ⟨t, ht, hr⟩; exact hW t (by omega) hr
                  exact ⟨(congrArg (fun z => Ending.returned (I z)) (by rw [pf0 hM hE hN hC])), st91.bare⟩
        · have h22p := dN (aS h22)
          iterate 4 refine sgf 31 rfl (by decide) (bF rfl h22) ?_
          refine sg (aN (v := .bool true) ((rfl : _ = (.bool (!(inB p.most 1 5)) : Value)).trans (congrArg Value.bool h22)) rfl (aE (gV rfl rfl (wp_seq (aA (sg (aD (v := I 1) rfl (aE (wp_ret ?_))))))))); repeat first|refine aH ?_|refine aI ?_
          refine aW Tryz.results160 rfl ?_
          exact ⟨(congrArg (fun z => Ending.returned (I z)) (by rw [pf1 (by unfold dQ; omega)])), st20.bare⟩
      · have h17p := dN (aS h17)
        iterate 4 refine sgf 25 rfl (by decide) (bF rfl h17) ?_
        refine sg (aN (v := .bool true) ((rfl : _ = (.bool (!(inB p.prio 0 9)) : Value)).trans (congrArg Value.bool h17)) rfl (sg (aB (v := .bool true) rfl ?_)))
        iterate 4 refine sgf 31 rfl (by decide) (bF rfl rfl) ?_
        refine sg (aN (v := .bool true) rfl rfl (aE (gV rfl rfl (wp_seq (aA (sg (aD (v := I 1) rfl (aE (wp_ret ?_))))))))); repeat first|refine aH ?_|refine aI ?_
        refine aW Tryz.results160 rfl ?_
        exact ⟨(congrArg (fun z => Ending.returned (I z)) (by rw [pf1 (by unfold dQ; omega)])), st15.bare⟩
    · have h12p := of_decide_eq_true h12
      iterate 4 refine sgf 19 rfl (by decide) (bF rfl h12) ?_
      refine sg (aN (v := .bool true) ((rfl : _ = (.bool (decide (30 < (p.edges.length : Int))) : Value)).trans (congrArg Value.bool h12)) rfl (sg (aB (v := .bool true) rfl ?_)))
      iterate 4 refine sgf 25 rfl (by decide) (bF rfl rfl) ?_
      refine sg (aN (v := .bool true) rfl rfl (sg (aB (v := .bool true) rfl ?_)))
      iterate 4 refine sgf 31 rfl (by decide) (bF rfl rfl) ?_
      refine sg (aN (v := .bool true) rfl rfl (aE (gV rfl rfl (wp_seq (aA (sg (aD (v := I 1) rfl (aE (wp_ret ?_))))))))); repeat first|refine aH ?_|refine aI ?_
      refine aW Tryz.results160 rfl ?_
      exact ⟨(congrArg (fun z => Ending.returned (I z)) (by rw [pf1 (by unfold dQ; omega)])), st9.bare⟩
  · have h11p := dN (aS h11)
    iterate 4 refine sgf 13 rfl (by decide) (bF rfl h11) ?_
    refine sg (aN (v := .bool true) ((rfl : _ = (.bool (!(inB p.tasks 1 12)) : Value)).trans (congrArg Value.bool h11)) rfl (sg (aB (v := .bool true) rfl ?_)))
    iterate 4 refine sgf 19 rfl (by decide) (bF rfl rfl) ?_
    refine sg (aN (v := .bool true) rfl rfl (sg (aB (v := .bool true) rfl ?_)))
    iterate 4 refine sgf 25 rfl (by decide) (bF rfl rfl) ?_
    refine sg (aN (v := .bool true) rfl rfl (sg (aB (v := .bool true) rfl ?_)))
    iterate 4 refine sgf 31 rfl (by decide) (bF rfl rfl) ?_
    refine sg (aN (v := .bool true) rfl rfl (aE (gV rfl rfl (wp_seq (aA (sg (aD (v := I 1) rfl (aE (wp_ret ?_))))))))); repeat first|refine aH ?_|refine aI ?_
    refine aW Tryz.results160 rfl ?_
    exact ⟨(congrArg (fun z => Ending.returned (I z)) (by rw [pf1 (by unfold dQ; omega)])), st9.bare⟩
set_option maxHeartbeats 2000000 in
theorem PlanFaultS (w : World) {p : Plan} {cs : List Value} {fp : List Nat} (hc : Shape.C w cs p fp) :
    Calls Tryz.prog 155 #[.agg cs.toArray] w fun e w' => e = .returned (I (dC p)) ∧ St w w' [] := by
  refine dU Tryz.func155 rfl Tryz.ntmps155 (by decide) (wp_seq (aA (sg (aQ (cs := cs) rfl (St.start w) ?_)))); intro b1 W2 hb3 st4
  refine sg (aD (v := I 0) rfl (aE (wp_seq (wp_seq (aA (sg (bE fY rfl rfl (st4.get 0 rfl) (Shape.len hc) (sg (bI Tryz.func212 rfl rfl ((ManyS W2 (cA hc st4.below)).mono ?_)))))))))); rintro _ W6 ⟨rfl, hk7⟩; refine ⟨_, rfl, ?_⟩
  have st8 := St.call st4 hk7
  refine aE (aR rfl (fun h10 => ?_) (fun h10 => ?_))
  · refine wp_seq (aA (sg (aD (v := I 1) rfl (aE (wp_ret ?_))))); repeat first|refine aH ?_|refine aI ?_
    refine aW Tryz.results155 rfl ?_
    exact ⟨(congrArg (fun z => Ending.returned (I z)) (by rw [pf1 (pB_iff.1 (by assumption))])), st8.bare⟩
  · refine wp_skip (wp_seq (wp_seq (aA ?_)))
    have hM : ¬ dQ p := fun hm => by rw [gU hm] at h10; cases h10
    have hMb := pM hM
    refine sg (aD (v := I 0) rfl (aE (wp_block (bH (fun (m : Nat) (f : Nat → Value) (W : World) => ∃ (k : Nat), k ≤ p.edges.length ∧ EdgesIn p.tasks.toNat (p.edges.take k) ∧ m = p.edges.length - k ∧ f 1 = .pointer (some ⟨b1, 0, none⟩) ∧ f 3 = I (k : Int) ∧ St w W ([Res.bx b1 cs 106])) (p.edges.length - 0) ?_ ?_))))
    · exact ⟨0, (by omega), EdgesIn.nil, rfl, rfl, rfl, st8⟩
    intro m11 f12 W13 hJ14
    obtain ⟨k, hk, hEk, rfl, hs16_1, hs16_3, st15⟩ := hJ14
    refine wp_seq (wp_seq (aA (sg (aB (v := I (k : Int)) hs16_3 (sg (aC dK hs16_1 ?_))))))
    have hk17 := hc
    obtain ⟨v17_0, g17_0, rfl, hok17, h17_0, rfl⟩ := hk17
    refine sg (aF eB rfl rfl (st15.get 0 rfl) (i := 4) rfl rfl (sg (aV cZ rfl h17_0 (sg (aY rfl rfl (aE (aR rfl (fun h18 => ?_) (fun h18 => ?_))))))))
    · have h18p := of_decide_eq_true h18
      refine wp_skip (wp_seq (wp_block (wp_seq ?_)))
      have hiab516 : k < p.edges.length := (by omega)
      rcases bd (!(inB (p.edges[k]'hiab516).from_ 0 (p.tasks - 1))) with h21 | h21
      · have h21p := inB_iff'.1 (aX h21)
        have hiab516 : k < p.edges.length := (by omega)
        have hq_ := idx h17_0 (i := k) hiab516
        obtain ⟨b22, o22, cs22, f22, hp22, hr22, hc22, hm22⟩ := hq_
        have hk23 := hc22
        obtain ⟨he23, rfl, hok23⟩ := hk23
        have he23 : _ = [I (p.edges[k]'hiab516).from_, I (p.edges[k]'hiab516).to_] := he23
        subst he23
        refine dI [Pl.is (.pointer (some ⟨b1, 0 + 4, none⟩)), Pl.is (v17_0) (Sl.yl h17_0), Pl.is (I (k : Int)), Pl.is (.pointer (some ⟨b22, o22, none⟩)), Pl.is (.pointer (some ⟨b22, o22 + 0, none⟩)), Pl.is (I (p.edges[k]'hiab516).from_), Pl.is (.pointer (some ⟨b1, 0 + 3, none⟩)), Pl.is (I p.tasks), Pl.is (I (p.tasks - 1)), Pl.bool (inB (p.edges[k]'hiab516).from_ 0 (p.tasks - 1)), Pl.bool false, Pl.bool false, Pl.is (.pointer (some ⟨b1, 0 + 4, none⟩)), Pl.is (v17_0) (Sl.yl h17_0), Pl.is (I (k : Int)), Pl.is (.pointer (some ⟨b22, o22, none⟩)), Pl.is (.pointer (some ⟨b22, o22 + 1, none⟩)), Pl.is (I (p.edges[k]'hiab516).to_), Pl.is (.pointer (some ⟨b1, 0 + 3, none⟩)), Pl.is (I p.tasks), Pl.is (I (p.tasks - 1)), Pl.bool (inB (p.edges[k]'hiab516).to_ 0 (p.tasks - 1)), Pl.bool (!(inB (p.edges[k]'hiab516).to_ 0 (p.tasks - 1))), Pl.bool (!(inB (p.edges[k]'hiab516).to_ 0 (p.tasks - 1)))] mix (by rfl) st15 ⟨(fun f W hst hbl hd hf => aC dK ((hf 1 rfl).trans hs16_1) brq), (fun f W hst hbl hd hf => aF eB rfl (hd 0 16 rfl rfl) (hst.get 0 rfl) (i := 4) rfl rfl brq), (fun f W hst hbl hd hf => aB (v := I (k : Int)) ((hf 3 rfl).trans hs16_3) brq), (fun f W hst hbl hd hf => aG cZ (hd 1 17 rfl rfl) hp22 (hd 2 18 rfl rfl) rfl brq), (fun f W hst hbl hd hf => aC fU (hd 3 19 rfl rfl) brq), (fun f W hst hbl hd hf => aK aJ rfl (hd 4 20 rfl rfl) hr22 hst.below (i := 0) rfl rfl brq), (fun f W hst hbl hd hf => aC eK ((hf 1 rfl).trans hs16_1) brq), (fun f W hst hbl hd hf => aF aJ rfl (hd 6 22 rfl rfl) (hst.get 0 rfl) (i := 3) rfl rfl brq), (fun f W hst hbl hd hf => fI (hd 7 23 rfl rfl) rfl (by (simp only [I64] at *; omega)) brq), (fun f W hst hbl hd hf => bS Tryz.func43 rfl (hd 5 21 rfl rfl) rfl (hd 8 24 rfl rfl) ((fK W (p.edges[k]'hiab516).from_ 0 (p.tasks - 1)).mono (by rintro e W2 ⟨rfl, hk⟩; exact ⟨_, rfl, hk.below, rfl⟩))), (fun f W hst hbl hd hf => bO (hd 9 25 rfl rfl) ⟨Below.refl _ _, congrArg Value.bool h21⟩), (fun f W hst hbl hd hf => aB (v := .bool false) (hd 10 26 rfl rfl) brq), (fun f W hst hbl hd hf => aC dK ((hf 1 rfl).trans hs16_1) brq), (fun f W hst hbl hd hf => aF eB rfl (hd 12 28 rfl rfl) (hst.get 0 rfl) (i := 4) rfl rfl brq), (fun f W hst hbl hd hf => aB (v := I (k : Int)) ((hf 3 rfl).trans hs16_3) brq), (fun f W hst hbl hd hf => aG cZ (hd 13 29 rfl rfl) hp22 (hd 14 30 rfl rfl) rfl brq), (fun f W hst hbl hd hf => aC fO (hd 15 31 rfl rfl) brq), (fun f W hst hbl hd hf => aK aJ rfl (hd 16 32 rfl rfl) hr22 hst.below (i := 1) rfl rfl brq), (fun f W hst hbl hd hf => aC eK ((hf 1 rfl).trans hs16_1) brq), (fun f W hst hbl hd hf => aF aJ rfl (hd 18 34 rfl rfl) (hst.get 0 rfl) (i := 3) rfl rfl brq), (fun f W hst hbl hd hf => fI (hd 19 35 rfl rfl) rfl (by (simp only [I64] at *; omega)) brq), (fun f W hst hbl hd hf => bS Tryz.func43 rfl (hd 17 33 rfl rfl) rfl (hd 20 36 rfl rfl) ((fK W (p.edges[k]'hiab516).to_ 0 (p.tasks - 1)).mono (by rintro e W2 ⟨rfl, hk⟩; exact ⟨_, rfl, hk.below, rfl⟩))), (fun f W hst hbl hd hf => bO (hd 21 37 rfl rfl) brq), (fun f W hst hbl hd hf => aO (v := .bool (!(inB (p.edges[k]'hiab516).to_ 0 (p.tasks - 1)))) (hd 11 27 rfl rfl) (hd 22 38 rfl rfl) brq), trivial⟩ ?_
        intro f24 W25 st26 hb27 hv28 hf29
        refine aR (hv28 23 39 (by decide) rfl) (fun h30 => ?_) (fun h30 => ?_)
        · have h30p := dN (aS h30)
          refine wp_seq (aA (sg (aD (v := I 2) rfl (aE (wp_ret ?_))))); repeat first|refine aH ?_|refine aI ?_
          refine aW Tryz.results155 rfl ?_
          have hnE : ¬ EdgesIn p.tasks.toNat p.edges := fun hE => by have hea := hE.at (k := k) (by omega); omega
          exact ⟨(congrArg (fun z => Ending.returned (I z)) (by rw [pf2 hM hnE])), st26.bare⟩
        · have h30p := inB_iff'.1 (aX h30)
          refine wp_skip (aA (sg (aB (v := I (k : Int)) ((hf29 3 rfl).trans hs16_3) (sg (aP rfl rfl (by (simp only [I64] at *; omega)) ?_)))))
          skip
          skip
          refine sg (aD (v := I ((k : Int) + 1)) rfl (aE ?_))
          exact ⟨_, p.edges.length - (k + 1), (by omega), rfl, k + 1, (by omega), (hEk.step (by omega) (by omega)), rfl, ((hf29 1 rfl).trans hs16_1), rfl, st26⟩
      · have h21p := dN (aS h21)
        have hiab516 : k < p.edges.length := (by omega)
        have hq_ := idx h17_0 (i := k) hiab516
        obtain ⟨b31, o31, cs31, f31, hp31, hr31, hc31, hm31⟩ := hq_
        have hk32 := hc31
        obtain ⟨he32, rfl, hok32⟩ := hk32
        have he32 : _ = [I (p.edges[k]'hiab516).from_, I (p.edges[k]'hiab516).to_] := he32
        subst he32
        refine dI [Pl.is (.pointer (some ⟨b1, 0 + 4, none⟩)), Pl.is (v17_0) (Sl.yl h17_0), Pl.is (I (k : Int)), Pl.is (.pointer (some ⟨b31, o31, none⟩)), Pl.is (.pointer (some ⟨b31, o31 + 0, none⟩)), Pl.is (I (p.edges[k]'hiab516).from_), Pl.is (.pointer (some ⟨b1, 0 + 3, none⟩)), Pl.is (I p.tasks), Pl.is (I (p.tasks - 1)), Pl.bool (inB (p.edges[k]'hiab516).from_ 0 (p.tasks - 1)), Pl.bool true, Pl.bool true, Pl.off, Pl.off, Pl.off, Pl.off, Pl.off, Pl.off, Pl.off, Pl.off, Pl.off, Pl.off, Pl.off, Pl.bool true] mix (by rfl) st15 ⟨(fun f W hst hbl hd hf => aC dK ((hf 1 rfl).trans hs16_1) brq), (fun f W hst hbl hd hf => aF eB rfl (hd 0 16 rfl rfl) (hst.get 0 rfl) (i := 4) rfl rfl brq), (fun f W hst hbl hd hf => aB (v := I (k : Int)) ((hf 3 rfl).trans hs16_3) brq), (fun f W hst hbl hd hf => aG cZ (hd 1 17 rfl rfl) hp31 (hd 2 18 rfl rfl) rfl brq), (fun f W hst hbl hd hf => aC fU (hd 3 19 rfl rfl) brq), (fun f W hst hbl hd hf => aK aJ rfl (hd 4 20 rfl rfl) hr31 hst.below (i := 0) rfl rfl brq), (fun f W hst hbl hd hf => aC eK ((hf 1 rfl).trans hs16_1) brq), (fun f W hst hbl hd hf => aF aJ rfl (hd 6 22 rfl rfl) (hst.get 0 rfl) (i := 3) rfl rfl brq), (fun f W hst hbl hd hf => fI (hd 7 23 rfl rfl) rfl (by (simp only [I64] at *; omega)) brq), (fun f W hst hbl hd hf => bS Tryz.func43 rfl (hd 5 21 rfl rfl) rfl (hd 8 24 rfl rfl) ((fK W (p.edges[k]'hiab516).from_ 0 (p.tasks - 1)).mono (by rintro e W2 ⟨rfl, hk⟩; exact ⟨_, rfl, hk.below, rfl⟩))), (fun f W hst hbl hd hf => bO (hd 9 25 rfl rfl) ⟨Below.refl _ _, congrArg Value.bool h21⟩), (fun f W hst hbl hd hf => aB (v := .bool true) (hd 10 26 rfl rfl) brq), (fun f W hst hbl hd hf => rfl), (fun f W hst hbl hd hf => rfl), (fun f W hst hbl hd hf => rfl), (fun f W hst hbl hd hf => rfl), (fun f W hst hbl hd hf => rfl), (fun f W hst hbl hd hf => rfl), (fun f W hst hbl hd hf => rfl), (fun f W hst hbl hd hf => rfl), (fun f W hst hbl hd hf => rfl), (fun f W hst hbl hd hf => rfl), (fun f W hst hbl hd hf => rfl), (fun f W hst hbl hd hf => aN (v := .bool true) (hd 11 27 rfl rfl) rfl brq), trivial⟩ ?_
        intro f33 W34 st35 hb36 hv37 hf38
        refine gV (hv37 23 39 (by decide) rfl) rfl (wp_seq (aA (sg (aD (v := I 2) rfl (aE (wp_ret ?_)))))); repeat first|refine aH ?_|refine aI ?_
        refine aW Tryz.results155 rfl ?_
        have hnE : ¬ EdgesIn p.tasks.toNat p.edges := fun hE => by have hea := hE.at (k := k) (by omega); omega
        exact ⟨(congrArg (fun z => Ending.returned (I z)) (by rw [pf2 hM hnE])), st35.bare⟩
    · have h18p := of_decide_eq_false h18
      refine wp_exit (wp_seq (wp_seq (aA ?_)))
      have hE : EdgesIn p.tasks.toNat p.edges := by rw [show k = p.edges.length by omega, List.take_length] at hEk; exact hEk
      refine sg (aD (v := I 0) rfl (aE (wp_block (bH (fun (m : Nat) (f : Nat → Value) (W : World) => ∃ (k2 : Nat), k2 ≤ p.edges.length ∧ (p.edges.take k2).Nodup ∧ m = p.edges.length - k2 ∧ f 1 = .pointer (some ⟨b1, 0, none⟩) ∧ f 4 = I (k2 : Int) ∧ St w W ([Res.bx b1 [I p.prio, I p.most, I p.wait, I p.tasks, v17_0] 106])) (p.edges.length - 0) ?_ ?_))))
      · exact ⟨0, (by omega), List.nodup_nil, rfl, hs16_1, rfl, st15⟩
      intro m39 f40 W41 hJ42
      obtain ⟨k2, hk2, hNk, rfl, hs44_1, hs44_4, st43⟩ := hJ42
      refine wp_seq (wp_seq (aA (sg (aB (v := I (k2 : Int)) hs44_4 (sg (aC dK hs44_1 (sg (aF eB rfl rfl (st43.get 0 rfl) (i := 4) rfl rfl (sg (aV cZ rfl h17_0 (sg (aY rfl rfl (aE (aR rfl (fun h45 => ?_) (fun h45 => ?_)))))))))))))))
      · have h45p := of_decide_eq_true h45
        refine wp_skip (wp_seq (wp_block (wp_seq (aA (sg (aD (v := I 0) rfl (aE (wp_block (bH (fun (m : Nat) (f : Nat → Value) (W : World) => ∃ (j : Nat), j ≤ k2 ∧ (p.edges[k2]'(by omega)) ∉ p.edges.take j ∧ m = k2 - j ∧ f 1 = .pointer (some ⟨b1, 0, none⟩) ∧ f 4 = I (k2 : Int) ∧ f 5 = I (j : Int) ∧ St w W ([Res.bx b1 [I p.prio, I p.most, I p.wait, I p.tasks, v17_0] 106])) (k2 - 0) ?_ ?_)))))))))
        · exact ⟨0, (by omega), (by simp), rfl, hs44_1, hs44_4, rfl, st43⟩
        intro m46 f47 W48 hJ49
        obtain ⟨j, hj, hj2, rfl, hs51_1, hs51_4, hs51_5, st50⟩ := hJ49
        refine wp_seq (wp_seq (aA (sg (aB (v := I (j : Int)) hs51_5 (sg (aB (v := I (k2 : Int)) hs51_4 (sg (aY rfl rfl (aE (aR rfl (fun h52 => ?_) (fun h52 => ?_)))))))))))
        · have h52p := of_decide_eq_true h52
          refine wp_skip (wp_seq (wp_block (wp_seq ?_)))
          have hi9adb2 : k2 < p.edges.length := (by omega)
          have hq_ := idx h17_0 (i := k2) hi9adb2
          obtain ⟨b53, o53, cs53, f53, hp53, hr53, hc53, hm53⟩ := hq_
          have hk54 := hc53
          obtain ⟨he54, rfl, hok54⟩ := hk54
          have he54 : _ = [I (p.edges[k2]'hi9adb2).from_, I (p.edges[k2]'hi9adb2).to_] := he54
          subst he54
          have hif5231 : j < p.edges.length := (by omega)
          have hq_ := idx h17_0 (i := j) hif5231
          obtain ⟨b55, o55, cs55, f55, hp55, hr55, hc55, hm55⟩ := hq_
          have hk56 := hc55
          obtain ⟨he56, rfl, hok56⟩ := hk56
          have he56 : _ = [I (p.edges[j]'hif5231).from_, I (p.edges[j]'hif5231).to_] := he56
          subst he56
          refine dI [Pl.is (.pointer (some ⟨b1, 0 + 4, none⟩)), Pl.is (v17_0) (Sl.yl h17_0), Pl.is (I (k2 : Int)), Pl.is (.pointer (some ⟨b53, o53, none⟩)), Pl.is (.agg #[I (p.edges[k2]'hi9adb2).from_, I (p.edges[k2]'hi9adb2).to_]), Pl.is (.pointer (some ⟨b1, 0 + 4, none⟩)), Pl.is (v17_0) (Sl.yl h17_0), Pl.is (I (j : Int)), Pl.is (.pointer (some ⟨b55, o55, none⟩)), Pl.is (.agg #[I (p.edges[j]'hif5231).from_, I (p.edges[j]'hif5231).to_]), Pl.bool (eqB (p.edges[k2]'hi9adb2) (p.edges[j]'hif5231))] mix (by rfl) st50 ⟨(fun f W hst hbl hd hf => aC dK ((hf 1 rfl).trans hs51_1) brq), (fun f W hst hbl hd hf => aF eB rfl (hd 0 52 rfl rfl) (hst.get 0 rfl) (i := 4) rfl rfl brq), (fun f W hst hbl hd hf => aB (v := I (k2 : Int)) ((hf 4 rfl).trans hs51_4) brq), (fun f W hst hbl hd hf => aG cZ (hd 1 53 rfl rfl) hp53 (hd 2 54 rfl rfl) rfl brq), (fun f W hst hbl hd hf => cS (cs := [I (p.edges[k2]'hi9adb2).from_, I (p.edges[k2]'hi9adb2).to_]) fN rfl (hd 3 55 rfl rfl) hr53 hst.below (i := 0) rfl rfl rfl brq), (fun f W hst hbl hd hf => aC dK ((hf 1 rfl).trans hs51_1) brq), (fun f W hst hbl hd hf => aF eB rfl (hd 5 57 rfl rfl) (hst.get 0 rfl) (i := 4) rfl rfl brq), (fun f W hst hbl hd hf => aB (v := I (j : Int)) ((hf 5 rfl).trans hs51_5) brq), (fun f W hst hbl hd hf => aG cZ (hd 6 58 rfl rfl) hp55 (hd 7 59 rfl rfl) rfl brq), (fun f W hst hbl hd hf => cS (cs := [I (p.edges[j]'hif5231).from_, I (p.edges[j]'hif5231).to_]) fN rfl (hd 8 60 rfl rfl) hr55 hst.below (i := 0) rfl rfl rfl brq), (fun f W hst hbl hd hf => uB (vQ (p.edges[k2]'hi9adb2) (p.edges[j]'hif5231)) vZ (hd 4 56 rfl rfl) (hd 9 61 rfl rfl) brq), trivial⟩ ?_
          intro f57 W58 st59 hb60 hv61 hf62
          refine aR (hv61 10 62 (by decide) rfl) (fun h63 => ?_) (fun h63 => ?_)
          · refine wp_seq (aA (sg (aD (v := I 3) rfl (aE (wp_ret ?_))))); repeat first|refine aH ?_|refine aI ?_
            refine aW Tryz.results155 rfl ?_
            have hnN : ¬ p.edges.Nodup := oM (k := k2) (by omega) (by rw [eqB_iff.1 h63]; exact qB (by omega) (by omega))
            exact ⟨(congrArg (fun z => Ending.returned (I z)) (by rw [pf3 hM hE hnN])), st59.bare⟩
          · refine wp_skip (aA (sg (aB (v := I (j : Int)) ((hf62 5 rfl).trans hs51_5) (sg (aP rfl rfl (by (simp only [I64] at *; omega)) (sg (aD (v := I ((j : Int) + 1)) rfl (aE ?_))))))))
            exact ⟨_, k2 - (j + 1), (by omega), rfl, j + 1, (by omega), (not_mem_take_step (by omega) hj2 (fun e => by rw [dV e] at h63; cases h63)), rfl, ((hf62 1 rfl).trans hs51_1), ((hf62 4 rfl).trans hs51_4), rfl, st59⟩
        · have h52p := of_decide_eq_false h52
          refine wp_exit (aA (sg (aB (v := I (k2 : Int)) hs51_4 (sg (aP rfl rfl (by (simp only [I64] at *; omega)) ?_)))))
          skip
          refine sg (aD (v := I ((k2 : Int) + 1)) rfl (aE ?_))
          exact ⟨_, p.edges.length - (k2 + 1), (by omega), rfl, k2 + 1, (by omega), (rA hNk (by omega) (by rw [show j = k2 by omega] at hj2; exact hj2)), rfl, hs51_1, rfl, st50⟩
      · have h45p := of_decide_eq_false h45
        refine wp_exit (wp_seq (wp_seq (aA ?_)))
        have hN : p.edges.Nodup := by rw [show k2 = p.edges.length by omega, List.take_length] at hNk; exact hNk
        refine sg (aD (v := I 0) rfl (aE (wp_block (bH (fun (m : Nat) (f : Nat → Value) (W : World) => ∃ (k3 : Nat), k3 ≤ p.tasks.toNat ∧ (∀ t : Nat, t < k3 → ¬ Rch p.edges (t : Int) (t : Int)) ∧ m = p.tasks.toNat - k3 ∧ f 1 = .pointer (some ⟨b1, 0, none⟩) ∧ f 6 = I (k3 : Int) ∧ St w W ([Res.bx b1 [I p.prio, I p.most, I p.wait, I p.tasks, v17_0] 106])) (p.tasks.toNat - 0) ?_ ?_))))
        · exact ⟨0, (by omega), (fun t ht => absurd ht (Nat.not_lt_zero t)), rfl, hs44_1, rfl, st43⟩
        intro m64 f65 W66 hJ67
        obtain ⟨k3, hk3, hW, rfl, hs69_1, hs69_6, st68⟩ := hJ67
        refine wp_seq (wp_seq (aA (sg (aB (v := I (k3 : Int)) hs69_6 (sg (aC eK hs69_1 (sg (aF aJ rfl rfl (st68.get 0 rfl) (i := 3) rfl rfl (sg (aY rfl rfl (aE (aR rfl (fun h70 => ?_) (fun h70 => ?_)))))))))))))
        · have h70p := of_decide_eq_true h70
          refine wp_skip (wp_seq (wp_block (wp_seq (aA (sg (aU (cs := [I p.prio, I p.most, I p.wait, I p.tasks, v17_0]) fY rfl hs69_1 (st68.get 0 rfl) rfl rfl (sg (aB (v := I (k3 : Int)) hs69_6 (sg (aZ Tryz.func213 rfl rfl rfl ((FromS W66 (cA hc st68.below) (k3 : Int) (by omega) (by omega) hE (by omega)).mono ?_))))))))))); rintro _ W73 ⟨v71, fp71, rfl, hk74⟩; refine ⟨_, rfl, ?_⟩
          have st75 := St.call st68 hk74
          refine sg (aB (v := I (k3 : Int)) hs69_6 ?_)
          have hfl := fromOf_len p.edges p.tasks.toNat (k3 : Int)
          have hi60dda : k3 < (lH p.edges p.tasks.toNat (k3 : Int)).length := (by omega)
          have hq_ := idx (bC (st75.get 0 rfl)) (i := k3) hi60dda
          obtain ⟨b77, o77, cs77, f77, hp77, hr77, hc77, hm77⟩ := hq_
          have hk77 := hc77
          obtain ⟨rfl, rfl, hok77⟩ := hk77
          refine sg (aG qM rfl hp77 rfl rfl (sg (aK vT rfl rfl hr77 (Below.refl _ _) (i := 0) rfl rfl (aE (aR rfl (fun h78 => ?_) (fun h78 => ?_))))))
          · refine wp_seq (aA (sg (aD (v := I 4) rfl (aE (wp_ret ?_))))); repeat first|refine aH ?_|refine aI ?_
            refine aW Tryz.results155 rfl ?_
            have hC : jQ p := ⟨k3, (by omega), pB_iff.1 ((sX _).symm.trans h78)⟩
            exact ⟨(congrArg (fun z => Ending.returned (I z)) (by rw [pf4 hM hE hN hC])), st75.bare⟩
          · refine wp_skip (aA (sg (aB (v := I (k3 : Int)) hs69_6 (sg (aP rfl rfl (by (simp only [I64] at *; omega)) ?_)))))
            skip
            refine sg (aD (v := I ((k3 : Int) + 1)) rfl (aE ?_))
            have st79 := st75.f1
            have st80 := st79.d1
            exact ⟨_, p.tasks.toNat - (k3 + 1), (by omega), rfl, k3 + 1, (by omega), (fun t ht => by rcases Nat.lt_succ_iff_lt_or_eq.1 ht with h1 | rfl; exact hW t h1; exact fun hr => absurd ((sX _).symm.trans h78) (by rw [gU hr]; decide)), rfl, hs69_1, rfl, st80⟩
        · have h70p := of_decide_eq_false h70
          refine wp_exit (wp_seq (aA (sg (aD (v := I 0) rfl (aE (wp_ret ?_)))))); repeat first|refine aH ?_|refine aI ?_
          refine aW Tryz.results155 rfl ?_
          have hC : ¬ jQ p := by rintro ⟨t, ht, hr⟩; exact hW t (by omega) hr
          exact ⟨(congrArg (fun z => Ending.returned (I z)) (by rw [pf0 hM hE hN hC])), st68.bare⟩
end Go.Proofs.YtchnllpegfbleaaGreat
namespace Go.Proofs.YtchnllpegfbleaaGreat
set_option linter.unusedSimpArgs false
set_option linter.unusedVariables false
set_option maxRecDepth 100000
open Go.RowKit Go.Sort
theorem Elems.ints_inv {W : World} : ∀ {xs : List Int} {cells : List Value} {fp : List Nat}, Elems W cells xs fp → cells = xs.map I ∧ fp = [] ∧ ∀ x ∈ xs, I64 x
  | [], _, _, ⟨h1, h2⟩ => ⟨h1, h2, by simp⟩
  | x :: xs, _, _, ⟨cs, rest, f1, f2, h1, h2, h3, h4⟩ => by
    obtain ⟨rfl, rfl, hx⟩ := h2
    obtain ⟨rfl, rfl, hxs⟩ := Elems.ints_inv h3
    subst h1 h4
    exact ⟨rfl, rfl, fun y hy => by rcases List.mem_cons.1 hy with rfl | hy; exact hx; exact hxs y hy⟩
theorem St.sorted {w0 W : World} {rs : List Res} {b off cap : Nat} {xs ys : List Int} {fp : List Nat} (h : St w0 W (Res.own (.slice (some ⟨b, off, none⟩) xs.length cap) xs fp :: rs)) (hne : xs ≠ []) (hl : ys.length = xs.length) (hm : ∀ y ∈ ys, y ∈ xs) (n : Nat) (os : Array Obj) :
    ∃ fp', St w0 (grow (putRow (Value.int .i64) (Sort.ahead W n) b off ys.toArray) os) (Res.own (.slice (some ⟨b, off, none⟩) xs.length cap) ys fp' :: rs) := by
  have hown := h.get 0 rfl
  have hwr := hown.2
  obtain ⟨ao, cap', e, h1, h2, h3⟩ := bC hown
  injection e with e1 e2 e3
  subst e1 e3
  rcases h3 with ⟨h0, _⟩ | ⟨b', off', f, _, e4, rfl, hb, h3⟩
  · exact absurd h0 hne
  injection e4 with e4
  injection e4 with e5 e6
  subst e5 e6
  obtain ⟨cells, he, hr⟩ := Elems.of_at off h3
  obtain ⟨rfl, rfl, h64⟩ := he.ints_inv
  obtain ⟨C, e, hC⟩ := hwr b (by simp)
  have hdr : Holds (Value.int .i64) W b off xs.toArray := by
    intro j hj
    have hj' : j < xs.length := by simpa using hj
    refine ⟨?_, by simp [World.frozen?, hC]⟩
    rw [hr j (I xs[j]) (by simp [hj'])]
    simp [hj']
  have hC' : (grow (putRow (Value.int .i64) (Sort.ahead W n) b off ys.toArray) os).heap[b]? = some (.cells (putCells (Value.int .i64) off ys.toArray C) e (0, 0)) := by
    rw [heap_grow_old _ _ (by simpa using hb)]
    simp [putRow, mapBlock, Sort.ahead, Array.getElem?_modify, hC, onCells]
  refine ⟨[b], h.turn (r' := Res.own _ ys [b]) rfl rfl rfl (by simp [grow]) ?_ ?_ (by simp [Res.own]) (fun c hc => .inl hc)⟩
  · intro k hk hkn
    have hkb : b ≠ k := fun e => hkn (by simp [Res.own, e])
    rw [heap_grow_old _ _ (by simpa using hk)]
    simp [putRow, mapBlock, Sort.ahead, Array.getElem?_modify, hkb]
  · refine ⟨Sl.v ⟨some ⟨b, off, none⟩, cap, by rw [hl], by rw [hl]; exact h1, h2, .inr ⟨b, off, [], ?_, rfl, rfl, ?_, ?_⟩⟩, ?_⟩
    · intro e0; rw [e0] at hl; exact hne (List.eq_nil_of_length_eq_zero hl.symm)
    · exact (Array.getElem?_eq_some_iff.1 hC').1
    · refine (Elems.ints ys (fun y hy => h64 y (hm y hy))).at off ?_
      intro j u hj
      have hjl : j < ys.length := by have := (List.getElem?_eq_some_iff.1 hj).1; simpa using this
      have hu : u = I ys[j] := by simpa [hjl] using hj.symm
      have hc := cell?_putRow (Value.int .i64) (Sort.ahead W n) b off xs.toArray ys.toArray (holds_ahead _ _ _ _ _ _ hdr) (by simp [hl]) j (by simpa using hjl)
      rw [cell?_grow _ _ _ (by simpa using hb)]
      rw [hc, hu]
      simp [hjl]
    · intro c hc
      simp at hc; subst hc
      exact ⟨_, _, hC'⟩
end Go.Proofs.YtchnllpegfbleaaGreat
namespace Go.Proofs.YtchnllpegfbleaaGreat
set_option linter.unusedSimpArgs false
set_option linter.unusedVariables false
set_option maxRecDepth 100000
open Go.RowKit
open Go.Sort
def lays189_ren : Go.Shelf.Ren := ⟨fun | 189 => 226 | 125 => 240 | 257 => 239 | 128 => 253 | 129 => 254 | 294 => 244 | 295 => 245 | 296 => 246 | 297 => 247 | 298 => 248 | 299 => 249 | 216 => 250 | 300 => 251 | 301 => 252 | 328 => 256 | 329 => 257 | 330 => 258 | 331 => 259 | 332 => 260 | 215 => 261 | 343 => 263 | n => n, fun | 28 => 49 | 3 => 3 | 46 => 232 | 0 => 0 | 51 => 245 | 53 => 247 | 4 => 4 | 183 => 237 | 182 => 236 | 131 => 242 | 5 => 5 | 9 => 9 | 218 => 248 | 222 => 252 | 228 => 255 | 229 => 256 | n => n, fun | n => n⟩
theorem vV : Go.Proofs.Lays.n189 Tryz.prog lays189_ren where
  mixed := by kernel_rfl
  f125 := Tryz.func240.trans (congrArg some (by kernel_rfl))
  f128 := Tryz.func253.trans (congrArg some (by kernel_rfl))
  f129 := Tryz.func254.trans (congrArg some (by kernel_rfl))
  f189 := Tryz.func226.trans (congrArg some (by kernel_rfl))
  f215 := Tryz.func261.trans (congrArg some (by kernel_rfl))
  f216 := Tryz.func250.trans (congrArg some (by kernel_rfl))
  f257 := Tryz.func239.trans (congrArg some (by kernel_rfl))
  f294 := Tryz.func244.trans (congrArg some (by kernel_rfl))
  f295 := Tryz.func245.trans (congrArg some (by kernel_rfl))
  f296 := Tryz.func246.trans (congrArg some (by kernel_rfl))
  f297 := Tryz.func247.trans (congrArg some (by kernel_rfl))
  f298 := Tryz.func248.trans (congrArg some (by kernel_rfl))
  f299 := Tryz.func249.trans (congrArg some (by kernel_rfl))
  f300 := Tryz.func251.trans (congrArg some (by kernel_rfl))
  f301 := Tryz.func252.trans (congrArg some (by kernel_rfl))
  f328 := Tryz.func256.trans (congrArg some (by kernel_rfl))
  f329 := Tryz.func257.trans (congrArg some (by kernel_rfl))
  f330 := Tryz.func258.trans (congrArg some (by kernel_rfl))
  f331 := Tryz.func259.trans (congrArg some (by kernel_rfl))
  f332 := Tryz.func260.trans (congrArg some (by kernel_rfl))
  f343 := Tryz.func263.trans (congrArg some (by kernel_rfl))
  t0 := Tryz.underlying0
  a0 := Tryz.isAgg0
  z0 := Tryz.sizeOf0
  v0 := Tryz.zeroValue0
  t3 := Tryz.underlying3
  a3 := Tryz.isAgg3
  z3 := Tryz.sizeOf3
  v3 := Tryz.zeroValue3
  t4 := Tryz.underlying4
  a4 := Tryz.isAgg4
  z4 := Tryz.sizeOf4
  v4 := Tryz.zeroValue4
  t5 := Tryz.underlying5
  a5 := Tryz.isAgg5
  z5 := Tryz.sizeOf5
  v5 := Tryz.zeroValue5
  t9 := Tryz.underlying9
  a9 := Tryz.isAgg9
  z9 := Tryz.sizeOf9
  v9 := Tryz.zeroValue9
  t28 := Tryz.underlying49
  a28 := Tryz.isAgg49
  z28 := Tryz.sizeOf49
  v28 := Tryz.zeroValue49
  t46 := Tryz.underlying232
  a46 := Tryz.isAgg232
  z46 := Tryz.sizeOf232
  v46 := Tryz.zeroValue232
  t51 := Tryz.underlying245
  a51 := Tryz.isAgg245
  z51 := Tryz.sizeOf245
  v51 := Tryz.zeroValue245
  t53 := Tryz.underlying247
  a53 := Tryz.isAgg247
  z53 := Tryz.sizeOf247
  v53 := Tryz.zeroValue247
  t131 := Tryz.underlying242
  a131 := Tryz.isAgg242
  z131 := Tryz.sizeOf242
  v131 := Tryz.zeroValue242
  t182 := Tryz.underlying236
  a182 := Tryz.isAgg236
  z182 := Tryz.sizeOf236
  v182 := Tryz.zeroValue236
  t183 := Tryz.underlying237
  a183 := Tryz.isAgg237
  z183 := Tryz.sizeOf237
  v183 := Tryz.zeroValue237
  t218 := Tryz.underlying248
  a218 := Tryz.isAgg248
  z218 := Tryz.sizeOf248
  v218 := Tryz.zeroValue248
  t222 := Tryz.underlying252
  a222 := Tryz.isAgg252
  z222 := Tryz.sizeOf252
  v222 := Tryz.zeroValue252
  t228 := Tryz.underlying255
  a228 := Tryz.isAgg255
  z228 := Tryz.sizeOf255
  v228 := Tryz.zeroValue255
  t229 := Tryz.underlying256
  a229 := Tryz.isAgg256
  z229 := Tryz.sizeOf256
  v229 := Tryz.zeroValue256


theorem SortOwn {w0 W : World} {rs : List Res} {v : Value} {xs : List Int} {fp : List Nat} (h : St w0 W (Res.own v xs fp :: rs)) (hn : xs.length ≤ 1000000) :
    Calls Tryz.prog 226 #[v] W fun e w' => e = .returned (.tuple #[]) ∧ ∃ fp', St w0 w' (Res.own v (cW xs) fp' :: rs) := by
  have hsl := bC (h.get 0 rfl)
  have hwr := (h.get 0 rfl).2
  obtain ⟨ao, cap, rfl, h1, h2, h3⟩ := hsl
  rcases h3 with ⟨rfl, rfl⟩ | ⟨b, off, f, hne, rfl, rfl, hb, h3⟩
  · refine (Any.slices_Sort_int_none vV ao cap W).mono ?_
    rintro e w' ⟨he, rfl⟩
    refine ⟨he, [], ?_⟩
    rw [show cW [] = [] from List.eq_nil_of_length_eq_zero (pJ [])]
    exact h
  · obtain ⟨cells, he, hr⟩ := Elems.of_at off h3
    obtain ⟨rfl, rfl, h64⟩ := he.ints_inv
    obtain ⟨C, e, hC⟩ := hwr b (by simp)
    have hdr : Holds (Value.int .i64) W b off xs.toArray := by
      intro j hj
      have hj' : j < xs.length := by simpa using hj
      refine ⟨?_, by simp [World.frozen?, hC]⟩
      rw [hr j (I xs[j]) (by simp [hj'])]
      simp [hj']
    refine (Any.slices_Sort_int vV b off cap xs W hdr hb (by omega)).mono ?_
    rintro e' w' ⟨he', n, os, rfl⟩
    obtain ⟨fp', hst⟩ := h.sorted hne (pJ xs) (fun y hy => (kZ xs).mem_iff.1 hy) n os
    exact ⟨he', fp', hst⟩

end Go.Proofs.YtchnllpegfbleaaGreat
namespace Go.Proofs.YtchnllpegfbleaaGreat
set_option linter.unusedSimpArgs false
set_option linter.unusedVariables false
open Go.RowKit
section
variable {P : Program} {W : World}
end
theorem St.own_nil {α : Type} [Shape α] {w0 W : World} {rs : List Res} (h : St w0 W rs) : St w0 W (Res.own (.slice none 0 0) ([] : List α) [] :: rs) :=
  h.trade (rs1 := []) (rs2 := [Res.own (.slice none 0 0) ([] : List α) []]) (show ([] : List Nat).Nodup from List.nodup_nil) (fun b hb => absurd (show b ∈ ([] : List Nat) from hb) (by simp)) (by intro r hr; simp at hr; subst hr; exact ⟨nil_Sl.v, by simp⟩)
end Go.Proofs.YtchnllpegfbleaaGreat
namespace Go.Proofs.YtchnllpegfbleaaGreat
set_option linter.unusedSimpArgs false
set_option linter.unusedVariables false
set_option maxRecDepth 100000
open Go.RowKit

set_option maxHeartbeats 2000000 in
theorem BeforeE (w : World) {p : Plan} {cs : List Value} {fp : List Nat} (hc : Shape.C w cs p fp) (task : Int) (hn : 1 ≤ p.tasks ∧ p.tasks ≤ 12) (hl : p.edges.length ≤ 30) (hE : EdgesIn p.tasks.toNat p.edges) :
    Calls Tryz.prog 214 #[.agg cs.toArray, I task] w fun e w' => ∃ (v : Value) (fp' : List Nat), e = .returned v ∧ St w w' [Res.own v (cW (cJ p.edges task)) fp'] := by
  refine cF Tryz.func214 rfl Tryz.ntmps214 (by decide) (wp_seq (aA (sg (aQ (cs := cs) rfl (St.start w) ?_)))); intro b1 W2 hb3 st4
  refine sg (aD (v := .slice none 0 0) rfl (aE (wp_seq (aA (sg (bR (cs := []) (e := 3) gK (eQ gH _) st4 ?_)))))); intro b6 W7 hb8 st9
  have st9 := st9.row_empty (α := Int)
  refine sg (aD (v := (.slice (some ⟨b6, 0, none⟩) 0 0)) rfl (aE (wp_seq (wp_seq (aA (sg (aD (v := I 0) rfl (aE (wp_block (bH (fun (m : Nat) (f : Nat → Value) (W : World) => ∃ (k : Nat) (v11 : Value), k ≤ p.tasks.toNat ∧ m = p.tasks.toNat - k ∧ f 1 = I task ∧ f 2 = .pointer (some ⟨b1, 0, none⟩) ∧ f 5 = v11 ∧ f 6 = I (k : Int) ∧ St w W ([Res.row (α := Int) 3 v11 (gN (cJ p.edges task) k) [], Res.bx b1 cs 106])) (p.tasks.toNat - 0) ?_ ?_))))))))))
  · exact ⟨0, (.slice (some ⟨b6, 0, none⟩) 0 0), (by first | omega | simp), rfl, rfl, rfl, rfl, rfl, st9⟩
  intro m12 f13 W14 hJ15
  obtain ⟨k, v11, hcd17_0, rfl, hs17_1, hs17_2, hs17_5, hs17_6, st16⟩ := hJ15
  refine wp_seq (wp_seq (aA (sg (aB (v := I (k : Int)) hs17_6 (sg (aC eK hs17_2 ?_))))))
  have hk18 := hc
  obtain ⟨v18_0, g18_0, rfl, hok18, h18_0, rfl⟩ := hk18
  refine sg (aF aJ rfl rfl (st16.get 1 rfl) (i := 3) rfl rfl (sg (aY rfl rfl (aE (aR rfl (fun h19 => ?_) (fun h19 => ?_))))))
  · have h19p := of_decide_eq_true h19
    refine wp_skip (wp_seq (wp_block (wp_seq (aA (sg (aD (v := I 0) rfl (aE (wp_block (bH (fun (m : Nat) (f : Nat → Value) (W : World) => ∃ (i : Nat) (v20 : Value), i ≤ p.edges.length ∧ m = p.edges.length - i ∧ f 1 = I task ∧ f 2 = .pointer (some ⟨b1, 0, none⟩) ∧ f 5 = v20 ∧ f 6 = I (k : Int) ∧ f 7 = I (i : Int) ∧ St w W ([Res.row (α := Int) 3 v20 (gN (cJ p.edges task) k ++ kO (p.edges.take i) task (k : Int)) [], Res.bx b1 [I p.prio, I p.most, I p.wait, I p.tasks, v18_0] 106])) (p.edges.length - 0) ?_ ?_)))))))))
    · exact ⟨0, v11, (by first | omega | simp), rfl, hs17_1, hs17_2, hs17_5, hs17_6, rfl, (by have hz := st16; rw [show gN (cJ p.edges task) k = gN (cJ p.edges task) k ++ kO (p.edges.take 0) task (k : Int) from (List.append_nil _).symm] at hz; exact hz)⟩
    intro m21 f22 W23 hJ24
    obtain ⟨i, v20, hcd26_0, rfl, hs26_1, hs26_2, hs26_5, hs26_6, hs26_7, st25⟩ := hJ24
    have hol := onesF_len p.edges task (k : Int) i k
    refine wp_seq (wp_seq (aA (sg (aB (v := I (i : Int)) hs26_7 (sg (aC dK hs26_2 (sg (aF eB rfl rfl (st25.get 1 rfl) (i := 4) rfl rfl (sg (aV cZ rfl h18_0 (sg (aY rfl rfl (aE (aR rfl (fun h27 => ?_) (fun h27 => ?_)))))))))))))))
    · have h27p := of_decide_eq_true h27
      refine wp_skip (wp_seq (wp_block (wp_seq (aA (sg (aC dK hs26_2 (sg (aF eB rfl rfl (st25.get 1 rfl) (i := 4) rfl rfl (sg (aB (v := I (i : Int)) hs26_7 ?_))))))))))
      have hi99fa3 : i < p.edges.length := (by omega)
      have hq_ := idx h18_0 (i := i) hi99fa3
      obtain ⟨b28, o28, cs28, f28, hp28, hr28, hc28, hm28⟩ := hq_
      refine sg (aG cZ rfl hp28 rfl rfl (sg (aC fU rfl ?_)))
      have hk29 := hc28
      obtain ⟨he29, rfl, hok29⟩ := hk29
      have he29 : _ = [I (p.edges[i]'hi99fa3).from_, I (p.edges[i]'hi99fa3).to_] := he29
      subst he29
      refine sg (aK aJ rfl rfl hr28 st25.below (i := 0) rfl rfl (sg (aB (v := I (k : Int)) hs26_6 (sg (bA rfl rfl (sg (aB (v := .bool (decide ((p.edges[i]'hi99fa3).from_ = (k : Int)))) rfl ?_)))))))
      rcases bd (decide ((p.edges[i]'hi99fa3).from_ = (k : Int))) with h30 | h30
      · have h30p := of_decide_eq_false h30
        iterate 8 refine sgf 30 rfl (by decide) (bF rfl h30) ?_
        refine sg (aO (v := .bool false) ((rfl : _ = (.bool (decide ((p.edges[i]'hi99fa3).from_ = (k : Int))) : Value)).trans (congrArg Value.bool h30)) rfl (aE (gX rfl rfl (wp_skip (aA (sg (aB (v := I (i : Int)) hs26_7 (sg (aP rfl rfl (by (simp only [I64] at *; omega)) (sg (aD (v := I ((i : Int) + 1)) rfl (aE ?_))))))))))))
        exact ⟨_, p.edges.length - (i + 1), (by omega), rfl, i + 1, v20, (by omega), rfl, hs26_1, hs26_2, hs26_5, hs26_6, rfl, (by rw [oL (by omega) (by intro hh_; exact absurd hh_.1 h30p)]; exact st25)⟩
      · have h30p := of_decide_eq_true h30
        refine sgo 30 rfl (by decide) (aL rfl h30) (aC dK hs26_2 (sgo 30 rfl (by decide) (aL rfl h30) (aF eB rfl rfl (st25.get 1 rfl) (i := 4) rfl rfl (sgo 30 rfl (by decide) (aL rfl h30) (aB (v := I (i : Int)) hs26_7 (sgo 30 rfl (by decide) (aL rfl h30) (aG cZ rfl hp28 rfl rfl (sgo 30 rfl (by decide) (aL rfl h30) (aC fO rfl (sgo 30 rfl (by decide) (aL rfl h30) (aK aJ rfl rfl hr28 st25.below (i := 1) rfl rfl (sgo 30 rfl (by decide) (aL rfl h30) (aB (v := I task) hs26_1 (sgo 30 rfl (by decide) (aL rfl h30) (bA rfl rfl (sg (aN (v := .bool (decide ((p.edges[i]'hi99fa3).to_ = task))) ((rfl : _ = (.bool (decide ((p.edges[i]'hi99fa3).from_ = (k : Int))) : Value)).trans (congrArg Value.bool h30)) rfl (aE (aR rfl (fun h31 => ?_) (fun h31 => ?_))))))))))))))))))))
        · have h31p := of_decide_eq_true h31
          refine aA (sg (aB (v := v20) hs26_5 (sg (aB (v := I (k : Int)) hs26_6 (sg (bR (cs := [I (k : Int)]) (e := 3) (eG (v := I (k : Int)) rfl gK) (cG gH _ _ rfl rfl (by decide)) st25 ?_)))))); intro b32 W33 hb34 st35
          have st37 := st35.f1
          refine sg (eC (ys := [(k : Int)]) gH rfl rfl rfl st37 (Elems.ic (by simp only [I64]; omega) Elems.i0) (by unfold maxLen; omega) (by omega) ?_); intro v38 W39 st40
          refine sg (aD (v := v38) rfl (aE (aA (sg (aB (v := I (i : Int)) hs26_7 (sg (aP rfl rfl (by (simp only [I64] at *; omega)) (sg (aD (v := I ((i : Int) + 1)) rfl (aE ?_))))))))))
          exact ⟨_, p.edges.length - (i + 1), (by omega), rfl, i + 1, v38, (by omega), rfl, hs26_1, hs26_2, rfl, hs26_6, rfl, (by rw [onesF_step_t (by omega) (by constructor <;> assumption), ← List.append_assoc]; exact st40)⟩
        · have h31p := of_decide_eq_false h31
          refine wp_skip (aA (sg (aB (v := I (i : Int)) hs26_7 (sg (aP rfl rfl (by (simp only [I64] at *; omega)) (sg (aD (v := I ((i : Int) + 1)) rfl (aE ?_))))))))
          exact ⟨_, p.edges.length - (i + 1), (by omega), rfl, i + 1, v20, (by omega), rfl, hs26_1, hs26_2, hs26_5, hs26_6, rfl, (by rw [oL (by omega) (by intro hh_; exact absurd hh_.2 h31p)]; exact st25)⟩
    · have h27p := of_decide_eq_false h27
      refine wp_exit (aA (sg (aB (v := I (k : Int)) hs26_6 (sg (aP rfl rfl (by (simp only [I64] at *; omega)) (sg (aD (v := I ((k : Int) + 1)) rfl (aE ?_))))))))
      exact ⟨_, p.tasks.toNat - (k + 1), (by omega), rfl, k + 1, v20, (by omega), rfl, hs26_1, hs26_2, hs26_5, rfl, (by rw [qE]; rw [show i = p.edges.length by omega, List.take_length] at st25; exact st25)⟩
  · have h19p := of_decide_eq_false h19
    refine wp_exit (wp_seq (aA (sg (aB (v := v11) hs17_5 (sg (aD (v := v11) rfl (aE (wp_ret ?_)))))))); repeat first|refine aH ?_|refine aI ?_
    refine aW Tryz.results214 rfl ?_
    obtain rfl : k = p.tasks.toNat := by omega
    rw [byTurn_eq (sW hE task)] at st16
    have hq_ := st16.shut
    obtain ⟨fpz, stz⟩ := hq_
    exact ⟨_, fpz, rfl, stz.only 0 rfl⟩
set_option maxHeartbeats 2000000 in
theorem BeforeOfI (w : World) {p : Plan} {cs : List Value} {fp : List Nat} (hc : Shape.C w cs p fp) (task : Int) :
    Calls Tryz.prog 231 #[.agg cs.toArray, I task] w fun e w' => ∃ (v : Value) (fp' : List Nat), e = .returned v ∧ St w w' [Res.own v (cT p task) fp'] := by
  refine cF Tryz.func231 rfl Tryz.ntmps231 (by decide) (wp_seq (aA (sg (aQ (cs := cs) rfl (St.start w) ?_)))); intro b1 W2 hb3 st4
  refine sg (aD (v := .slice none 0 0) rfl (aE (wp_seq (wp_seq (aA (sg (bE fY rfl rfl (st4.get 0 rfl) (Shape.len hc) (sg (bI Tryz.func160 rfl rfl ((rX W2 (cA hc st4.below)).mono ?_)))))))))); rintro _ W6 ⟨rfl, hk7⟩; refine ⟨_, rfl, ?_⟩
  have st8 := St.call st4 hk7
  refine sg (bL rfl rfl (aE (aR rfl (fun h10 => ?_) (fun h10 => ?_))))
  · have h10p := of_decide_eq_false (aS h10)
    refine wp_seq (aA (sg (aD (v := .slice none 0 0) rfl (aE (wp_ret ?_))))); repeat first|refine aH ?_|refine aI ?_
    refine aW Tryz.results231 rfl ?_
    have hb : cT p task = [] := by unfold cT; rw [if_neg (by assumption)]
    rw [hb]
    exact ⟨_, [], rfl, (St.own_nil (α := Int) st8).only 0 rfl⟩
  · have h10p := of_decide_eq_true (aX h10)
    refine wp_skip (wp_seq (aA ?_))
    have hF0 : dC p = 0 := by omega
    have hq_ := qA hF0
    obtain ⟨hM, hE, _, _⟩ := hq_
    have hMb := pM hM
    refine sg (aD (v := .slice none 0 0) rfl (aE (wp_seq (wp_seq (aA (sg (aC dK rfl ?_)))))))
    have hk11 := hc
    obtain ⟨v11_0, g11_0, rfl, hok11, h11_0, rfl⟩ := hk11
    refine sg (aF eB rfl rfl (st8.get 0 rfl) (i := 4) rfl rfl (sg (aV cZ rfl h11_0 (sg (aB (v := I 0) rfl (aE (wp_block ?_)))))))
    have st13 := st8.row_nil (α := Int) 3
    refine bH (fun (m : Nat) (f : Nat → Value) (W : World) => ∃ (k : Nat) (v12 : Value), k ≤ p.edges.length ∧ m = p.edges.length - k ∧ f 1 = I task ∧ f 5 = v12 ∧ f 12 = v11_0 ∧ f 13 = I (p.edges.length : Int) ∧ f 14 = I (k : Int) ∧ St w W ([Res.row (α := Int) 3 v12 (cJ (p.edges.take k) task) [], Res.bx b1 [I p.prio, I p.most, I p.wait, I p.tasks, v11_0] 106])) (p.edges.length - 0) ?_ ?_
    · exact ⟨0, (.slice none 0 0), (by first | omega | simp), rfl, rfl, rfl, rfl, rfl, rfl, st13⟩
    intro m15 f16 W17 hJ18
    obtain ⟨k, v12, hcd20_0, rfl, hs20_1, hs20_5, hs20_12, hs20_13, hs20_14, st19⟩ := hJ18
    have hfl := pR (p.edges.take k) task
    have htl := List.length_take_le k p.edges
    refine wp_seq (aA (sg (aY hs20_14 hs20_13 (aE (wp_seq (aR rfl (fun h21 => ?_) (fun h21 => ?_)))))))
    · have h21p := of_decide_eq_true h21
      refine wp_skip (wp_seq (wp_block (wp_seq (aA ?_))))
      have hiab516 : k < p.edges.length := (by omega)
      have hq_ := idx h11_0 (i := k) hiab516
      obtain ⟨b22, o22, cs22, f22, hp22, hr22, hc22, hm22⟩ := hq_
      refine sg (aG cZ hs20_12 hp22 hs20_14 rfl (sg (bY fN rfl rfl hr22 st19.below (Shape.len hc22) (sg (bN kT st19 ?_))))); intro b23 W24 hb25 st26
      refine sg (bU (cs := cs22) fN hc22 rfl rfl st26 rfl ?_); intro W28 st29
      refine aE (wp_seq (aA (sg (aC fO rfl ?_))))
      have hea := hE.at (k := k) (by omega)
      have hk30 := hc22
      obtain ⟨he30, rfl, hok30⟩ := hk30
      have he30 : _ = [I (p.edges[k]'hiab516).from_, I (p.edges[k]'hiab516).to_] := he30
      subst he30
      refine sg (aF aJ rfl rfl (st29.get 0 rfl) (i := 1) rfl rfl (sg (aB (v := I task) hs20_1 (sg (bA rfl rfl (aE (aR rfl (fun h31 => ?_) (fun h31 => ?_))))))))
      · have h31p := of_decide_eq_true h31
        refine aA (sg (aB (v := v12) hs20_5 (sg (aC fU rfl (sg (aF aJ rfl rfl (st29.get 0 rfl) (i := 0) rfl rfl (sg (bR (cs := [I (p.edges[k]'hiab516).from_]) (e := 3) (eG (v := I (p.edges[k]'hiab516).from_) rfl gK) (cG gH _ _ rfl rfl (by decide)) st29 ?_)))))))); intro b32 W33 hb34 st35
        have st37 := st35.f2
        refine sg (eC (ys := [(p.edges[k]'hiab516).from_]) gH rfl rfl rfl st37 (Elems.ic (by have := hc; simp only [I64]; omega) Elems.i0) (by unfold maxLen; omega) (by omega) ?_); intro v38 W39 st40
        skip
        skip
        skip
        refine sg (aD (v := v38) rfl (aE (aA (sg (aP hs20_14 rfl (by (simp only [I64] at *; omega)) (sg (aB (v := I ((k : Int) + 1)) rfl (aE ?_))))))))
        have st41 := st40.f2
        have st42 := st41.f1
        have st43 := st42.d2
        exact ⟨_, p.edges.length - (k + 1), (by omega), rfl, k + 1, v38, (by omega), rfl, hs20_1, rfl, hs20_12, hs20_13, rfl, (by rw [lG (by omega) h31p]; exact st43)⟩
      · have h31p := of_decide_eq_false h31
        refine wp_skip (aA (sg (aP hs20_14 rfl (by (simp only [I64] at *; omega)) (sg (aB (v := I ((k : Int) + 1)) rfl (aE ?_))))))
        have st44 := st29.f2
        have st45 := st44.f2
        have st46 := st45.d2
        exact ⟨_, p.edges.length - (k + 1), (by omega), rfl, k + 1, v12, (by omega), rfl, hs20_1, hs20_5, hs20_12, hs20_13, rfl, (by rw [oQ (by omega) h31p]; exact st46)⟩
    · have h21p := of_decide_eq_false h21
      refine wp_exit (wp_seq (aA (sg (aB (v := v12) hs20_5 ?_))))
      have hq_ := st19.shut
      obtain ⟨fp48, st49⟩ := hq_
      refine sg (bI Tryz.func226 rfl rfl ((SortOwn st49 (by rw [List.take_of_length_le (by omega)] at hfl; rw [List.take_of_length_le (by omega)]; omega)).mono ?_)); rintro _ W47 ⟨rfl, fp51, st50⟩; refine ⟨_, rfl, ?_⟩
      refine aE (wp_seq (aA (sg (aB (v := v12) hs20_5 (sg (aD (v := v12) rfl (aE (wp_ret ?_)))))))); repeat first|refine aH ?_|refine aI ?_
      refine aW Tryz.results231 rfl ?_
      obtain rfl : k = p.edges.length := by omega
      rw [List.take_length] at st50
      have hb : cT p task = cW (cJ p.edges task) := by unfold cT; rw [if_pos (by omega)]
      rw [hb]
      exact ⟨_, _, rfl, st50.only 0 rfl⟩
end Go.Proofs.YtchnllpegfbleaaGreat
namespace Go.Proofs.YtchnllpegfbleaaGreat
set_option linter.unusedSimpArgs false
set_option linter.unusedVariables false
open Go.RowKit

def dA (ts : List Task) (s : Int) : Int := ((ts.filter (fun t => decide (t.state = s))).length : Int)
def cR (ts : List Task) : List Int := [dA ts 0, dA ts 1, dA ts 2, dA ts 3, dA ts 4, dA ts 5, dA ts 6]
theorem eI (ts : List Task) (s : Int) : 0 ≤ dA ts s := by unfold dA; omega
theorem lM (ts : List Task) (s : Int) : dA ts s ≤ ts.length := by
  unfold dA
  have := List.length_filter_le (fun t : Task => decide (t.state = s)) ts
  omega
theorem tE {ts : List Task} {k : Nat} (hk : k < ts.length) (s : Int) : dA (ts.take (k + 1)) s = dA (ts.take k) s + (if ts[k].state = s then 1 else 0) := by
  unfold dA
  rw [List.take_succ_eq_append_getElem hk, List.filter_append]
  by_cases h : ts[k].state = s <;> simp [h]
theorem oV (ts : List Task) : (cR ts).length = 7 := rfl
theorem cnts_nil : cR [] = [0, 0, 0, 0, 0, 0, 0] := rfl
theorem cnts_set {ts : List Task} {k : Nat} (hk : k < ts.length) (h : 1 ≤ ts[k].state ∧ ts[k].state ≤ 6) (hl : ts[k].state.toNat < (cR (ts.take k)).length) :
    (cR (ts.take k)).set ts[k].state.toNat ((cR (ts.take k))[ts[k].state.toNat]'hl + 1) = cR (ts.take (k + 1)) := by
  have hc : ts[k].state = 1 ∨ ts[k].state = 2 ∨ ts[k].state = 3 ∨ ts[k].state = 4 ∨ ts[k].state = 5 ∨ ts[k].state = 6 := by omega
  have e : cR (ts.take (k + 1)) = [dA (ts.take k) 0 + (if ts[k].state = 0 then 1 else 0), dA (ts.take k) 1 + (if ts[k].state = 1 then 1 else 0), dA (ts.take k) 2 + (if ts[k].state = 2 then 1 else 0), dA (ts.take k) 3 + (if ts[k].state = 3 then 1 else 0), dA (ts.take k) 4 + (if ts[k].state = 4 then 1 else 0), dA (ts.take k) 5 + (if ts[k].state = 5 then 1 else 0), dA (ts.take k) 6 + (if ts[k].state = 6 then 1 else 0)] := by
    unfold cR
    simp only [tE hk]
  rw [e]
  generalize ts[k].state = s at hc hl ⊢
  rcases hc with rfl | rfl | rfl | rfl | rfl | rfl <;> simp [cR]
theorem cnts_rng (ts : List Task) (i : Nat) (h : i < (cR ts).length) : 0 ≤ (cR ts)[i] ∧ (cR ts)[i] ≤ ts.length := by
  have hm : (cR ts)[i] ∈ cR ts := List.getElem_mem h
  generalize (cR ts)[i] = y at hm
  simp only [cR, List.mem_cons, List.not_mem_nil, or_false] at hm
  rcases hm with rfl | rfl | rfl | rfl | rfl | rfl | rfl <;> exact ⟨eI _ _, lM _ _⟩
theorem wA : ∀ {ts : List Task}, (∀ t ∈ ts, 1 ≤ t.state ∧ t.state ≤ 6) → dA ts 1 + dA ts 2 + dA ts 3 + dA ts 4 + dA ts 5 + dA ts 6 = ts.length
  | [], _ => rfl
  | t :: ts, h => by
    have ih := wA (ts := ts) (fun x hx => h x (by simp [hx]))
    have ht := h t (by simp)
    have hs : ∀ s : Int, dA (t :: ts) s = dA ts s + (if t.state = s then 1 else 0) := by
      intro s
      unfold dA
      by_cases hh : t.state = s <;> simp [hh]
    simp only [hs, List.length_cons]
    have hc : t.state = 1 ∨ t.state = 2 ∨ t.state = 3 ∨ t.state = 4 ∨ t.state = 5 ∨ t.state = 6 := by omega
    rcases hc with e | e | e | e | e | e <;> simp [e] <;> omega
theorem pV (ts : List Task) (s : Int) : ∀ k, k ≤ ts.length → ((gZ ts s k).length : Int) = dA (ts.take k) s
  | 0, _ => rfl
  | k + 1, h => by
    have ih := pV ts s k (by omega)
    have hk : k < ts.length := by omega
    rw [tE hk]
    by_cases hh : ts[k].state = s
    · rw [mS hk hh, List.length_append, if_pos hh, List.length_singleton]; omega
    · rw [pE hk hh, if_neg hh]; omega
theorem lY (ts : List Task) (s : Int) : ((aT ts s).length : Int) = dA ts s := by
  have := pV ts s ts.length (Nat.le_refl _)
  rwa [List.take_length] at this
def fL (ts : List Task) : Int :=
  if dA ts 4 = ts.length then 2 else if dA ts 5 = 1 ∧ dA ts 1 + dA ts 2 + dA ts 3 = 0 then 3 else if dA ts 5 = 0 ∧ 0 < dA ts 6 ∧ dA ts 1 + dA ts 2 + dA ts 3 = 0 then 4 else if dA ts 5 = 0 ∧ dA ts 6 = 0 then 1 else 0
def lF (r : Run) (x : Int) : Bool := match r.tasks[x.toNat]? with | some t => decide (t.state = 4) | none => false
def cP (r : Run) (l : List Int) : Int := ((l.filter (fun b => !lF r b)).length : Int)
noncomputable def jJ (r : Run) (task : Int) : Int := cP r (cT r.plan task)
theorem kC {r : Run} {l : List Int} {k : Nat} (hk : k < l.length) : cP r (l.take (k + 1)) = cP r (l.take k) + (if lF r l[k] then 0 else 1) := by
  unfold cP
  rw [List.take_succ_eq_append_getElem hk, List.filter_append]
  cases h : lF r l[k] <;> simp [h]
theorem rB (r : Run) (l : List Int) : 0 ≤ cP r l ∧ cP r l ≤ l.length := by
  unfold cP
  have := List.length_filter_le (fun b => !lF r b) l
  omega
def cB (r : Run) (need : Int) (t : Task) : Prop :=
  (1 ≤ t.state ∧ t.state ≤ 6) ∧ t.need = need ∧ (0 ≤ t.try_ ∧ t.try_ ≤ r.plan.most) ∧ (t.state = 3 → 1 ≤ t.until_ ∧ t.until_ ≤ 1000000000) ∧ (¬ t.state = 3 → t.until_ = 0) ∧
  (t.state = 1 → 0 < need) ∧ (t.state = 2 → need = 0 ∧ t.try_ < r.plan.most) ∧ ((t.state = 3 ∨ t.state = 4 ∨ t.state = 5) → need = 0 ∧ 1 ≤ t.try_)
def kA (r : Run) (k : Nat) : Prop := ∀ h : k < r.tasks.length, cB r (jJ r (k : Int)) r.tasks[k]
noncomputable def dY (r : Run) : Bool := pB ((1 ≤ r.id ∧ r.id ≤ 9999) ∧ dC r.plan = 0 ∧ (r.tasks.length : Int) = r.plan.tasks ∧ (∀ k, k < r.tasks.length → kA r k) ∧ r.state = fL r.tasks ∧ ¬ r.state = 0)
theorem nB {r : Run} {x : Int} (h : x.toNat < r.tasks.length) : lF r x = decide (r.tasks[x.toNat].state = 4) := by
  unfold lF; rw [List.getElem?_eq_getElem h]
end Go.Proofs.YtchnllpegfbleaaGreat
