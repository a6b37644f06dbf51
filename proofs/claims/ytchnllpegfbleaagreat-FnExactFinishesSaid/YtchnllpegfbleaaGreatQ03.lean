/-
  What is wrong with a plan: of the program and of the reference.
  What a sort leaves of an owned slice of numbers.
  slices.Sort over a slice of numbers of one's own.
  Functions without parameters; slices that are nil, owned out of nothing.
  The tasks before and behind a task: of the program and of the reference.
  When a run is right. Theory alone.
  When a run is right: of the program and of the reference.
  The laws' marks: what is written.
  Runs that are changed in place, of the program.
  A task that fails: what becomes of a right run. Theory alone.
  Rows handled by their block: cap, parts, copies, and what is appended of zeros.
  When a shelf is right: of the program and of the reference.
-/
import Derived.Shelf.Sort.Plain
import Derived.Shelf.Slices.In.SortNone
import Derived.Lib.AppendZerosOnto
import Derived.Lib.Overlaps
import Derived.Laws.IdiomCopy
import Derived.Test.YtchnllpegfbleaaGreatQ01
import Derived.Test.YtchnllpegfbleaaGreatQ02
namespace Go.Proofs.YtchnllpegfbleaaGreat
set_option linter.unusedSimpArgs false
set_option linter.unusedVariables false
set_option maxRecDepth 100000
set_option maxHeartbeats 2000000
open Go.RowKit
theorem I64_rng {a : Int} (h : 0 ≤ a ∧ a < 4294967296) : I64 a := by unfold I64; omega
theorem zX {out : List Bool} {i : Nat} (h : i < out.length) : out.getD i false = out[i] := by simp [List.getD, h]
section
variable {es : List Edge} {n : Nat} {t : Int} {q : List Int} {out : List Bool} {h i : Nat}
theorem BInv.skip1 (b : BInv es n t q out h i) (hin : EdgesIn n es) (hi : i < es.length) (hh : h < q.length) (hne : ¬ es[i].from_ = q[h]) : BInv es n t q out h (i + 1) :=
 b.skip hin (List.getElem?_eq_getElem hi) (List.getElem?_eq_getElem hh) (fun hc => hne hc.1)
theorem BInv.skip2 (b : BInv es n t q out h i) (hin : EdgesIn n es) (hi : i < es.length) (hh : h < q.length) (hl : es[i].to_.toNat < out.length) (ho : (!out[es[i].to_.toNat]) = false) : BInv es n t q out h (i + 1) :=
 b.skip hin (List.getElem?_eq_getElem hi) (List.getElem?_eq_getElem hh) (fun hc => by have := hc.2; rw [zX hl] at this; rw [this] at ho; cases ho)
theorem BInv.add1 (b : BInv es n t q out h i) (hin : EdgesIn n es) (hi : i < es.length) (hh : h < q.length) (hf : es[i].from_ = q[h]) (hl : es[i].to_.toNat < out.length) (ho : (!out[es[i].to_.toNat]) = true) : BInv es n t (q ++ [es[i].to_]) (out.set es[i].to_.toNat true) h (i + 1) :=
 b.add hin (List.getElem?_eq_getElem hi) (List.getElem?_eq_getElem hh) hf (by rw [zX hl]; simpa using ho)
end
theorem fromOf_len (es : List Edge) (n : Nat) (t : Int) : (mN es n t).length = n := by simp [mN]
theorem vV {es : List Edge} {n : Nat} {t : Int} {k : Nat} (h : k < (mN es n t).length) : (mN es n t)[k] = pB (Rch es t (k : Int)) := by simp [mN]
theorem pM {p : Plan} (h : ¬ cT p) : (1 ≤ p.tasks ∧ p.tasks ≤ 12) ∧ p.edges.length ≤ 30 := by unfold cT at h; omega

theorem IndexE (w : World) {v : Value} {xs : List Edge} {fp : List Nat} (h : Sl w v xs fp) {ds : List Value} {y : Edge} {gp : List Nat} (hd : Shape.C w ds y gp) :
  Calls Tryz.prog 232 #[v, .agg ds.toArray] w fun e w' => e = .returned (I (ixI (fC (fun x => eqB y x) xs))) ∧ St w w' [] := by
 have hcap := h.len_le
 refine bX Tryz.func232 rfl Tryz.ntmps232 aW (wp_seq (aA (sg (aJ (cs := ds) rfl (St.start w) ?_)))); intro b1 W2 hb3 st4
 refine sg (aC (v := I 0) rfl (aB (wp_seq (wp_seq (aA (rn st4 3 Ag.nil.put.put.put.put [] [(7, I (xs.length : Int)), (8, I 0)] [ql h] aE fun f9 h9_ => (aB (wp_block (aZ (fun (m : Nat) (f : Nat → Value) (W : World) => ∃ (k : Nat), k ≤ xs.length ∧ (xs.take k).any (fun x => eqB y x) = false ∧ m = xs.length - k ∧ Ag [(0, v), (3, .pointer (some ⟨b1, 0, none⟩)), (7, I (xs.length : Int)), (8, I (k : Int))] f ∧ St w W ([Res.bx b1 ds 176])) (xs.length - 0) ?_ ?_)))))))))
 ·exact ⟨0, Nat.zero_le _, rfl, rfl, (h9_.to aE), st4⟩
 intro m10 f11 W12 hJ13
 obtain ⟨k, hk, hany, rfl, hA15, st14⟩ := hJ13
 refine wp_seq (aA (sg (bV (hA15.at 8) (hA15.at 7) (aB (wp_seq (aM rfl (fun h18p => ?_) (fun h18p => ?_)))))))
 ·refine wp_skip (wp_seq (wp_block (wp_seq (aA (sg (aG (v := I (k : Int)) (hA15.at 8) (sg (aC (v := I (k : Int)) rfl (aB (wp_seq ?_))))))))))
  have hk23 := hd
  obtain ⟨he23, rfl, hok23⟩ := hk23
  have he23 : _ = [I y.from_, I y.to_] := he23
  subst he23
  have hi51fab : k < xs.length := aD
  have hq_ := idx h (i := k) hi51fab
  obtain ⟨b24, o24, cs24, f24, hp24, hr24, hc24, hm24⟩ := hq_
  have hk25 := hc24
  obtain ⟨he25, rfl, hok25⟩ := hk25
  have he25 : _ = [I (xs[k]'hi51fab).from_, I (xs[k]'hi51fab).to_] := he25
  subst he25
  refine oZ [Pl.is (.agg #[I y.from_, I y.to_]), Pl.is (v) (Sl.yl h), Pl.is (I (k : Int)), Pl.is (.pointer (some ⟨b24, o24, none⟩)), Pl.is (.agg #[I (xs[k]'hi51fab).from_, I (xs[k]'hi51fab).to_]), Pl.bool (eqB y (xs[k]'hi51fab))] mix (by rfl) st14 ⟨(fun f W hst hbl hd hf => aT (cs := [I y.from_, I y.to_]) fZ rfl ((hf 3 rfl).trans (hA15.at 3)) (hst.get 0 rfl) rfl rfl brq), (fun f W hst hbl hd hf => aG (v := v) ((hf 0 rfl).trans (hA15.at 0)) brq), (fun f W hst hbl hd hf => aG (v := I (k : Int)) ((hf 5 rfl).trans (show _ = I (k : Int) from rfl)) brq), (fun f W hst hbl hd hf => aN jA (hd 1 12 rfl rfl) hp24 (hd 2 13 rfl rfl) rfl brq), (fun f W hst hbl hd hf => fH (cs := [I (xs[k]'hi51fab).from_, I (xs[k]'hi51fab).to_]) fZ rfl (hd 3 14 rfl rfl) hr24 hst.below (i := 0) rfl rfl rfl brq), (fun f W hst hbl hd hf => xL (zP y (xs[k]'hi51fab)) zZ (hd 0 11 rfl rfl) (hd 4 15 rfl rfl) brq), trivial⟩ ?_
  intro f26 W27 st28 hb29 hv30 hf31
  refine cM (hv30 5 16 aW rfl) (fun h33 => ?_) (fun h33 => ?_)
  ·refine wp_seq (aA (sg (aG (v := I (k : Int)) ((hf31 5 rfl).trans (show _ = I (k : Int) from rfl)) (sg (aC (v := I (k : Int)) rfl (aB (wr (aO Tryz.results232 rfl ?_))))))))
   exact ⟨(fI (by rw [jK aD hany h33]; try rfl)), st28.bare⟩
  ·refine wp_skip (aA (sg (bQ ((hf31 8 rfl).trans (hA15.at 8)) rfl dJ (sg (aG (v := I ((k : Int) + 1)) rfl (aB ?_))))))
   exact ⟨_, xs.length - (k + 1), aD, rfl, k + 1, aD, (mT aD hany h33), rfl, (Ag.cons ((hf31 0 rfl).trans (hA15.at 0)) (Ag.cons ((hf31 3 rfl).trans (hA15.at 3)) (Ag.cons ((hf31 7 rfl).trans (hA15.at 7)) (Ag.cons rfl Ag.nil)))), st28⟩
 ·refine wp_exit (wp_seq (aA (sg (aC (v := I (-1)) rfl (aB (wr (aO Tryz.results232 rfl ?_)))))))
  obtain rfl : k = xs.length := by omega
  rw [List.take_length] at hany
  exact ⟨(fI (by rw [jL hany]; try rfl)), st14.bare⟩
theorem ContE (w : World) {v : Value} {xs : List Edge} {fp : List Nat} (h : Sl w v xs fp) {ds : List Value} {y : Edge} {gp : List Nat} (hd : Shape.C w ds y gp) :
  Calls Tryz.prog 215 #[v, .agg ds.toArray] w fun e w' => e = .returned (.bool (decide (y ∈ xs))) ∧ St w w' [] := by
 refine bX Tryz.func215 rfl Tryz.ntmps215 aW (wp_seq (aA (sg (aJ (cs := ds) rfl (St.start w) ?_)))); intro b1 W2 hb3 st4
 refine sg (aC (v := .bool false) rfl (aB (wp_seq (aA (rc st4 5 Ag.nil.put.put.put.put [4] [(4, .bool (decide (0 ≤ (ixI (fC (fun x => eqB y x) xs)))))] [qw 0 rfl (Shape.len hd), qc Tryz.func232 rfl (fun W s b => IndexE W (h.below s.below) hd), .o] aE fun f9 W10 h9_ st11 hb12 => (aB (wr (aO Tryz.results215 (h9_.at 4) ?_))))))))
 exact ⟨(fB (aB4 y xs)), st11.bare⟩
theorem WaitsI (w : World) {p : Plan} {cs : List Value} {fp : List Nat} (hc : Shape.C w cs p fp) (hn : 1 ≤ p.tasks ∧ p.tasks ≤ 12) (hl : p.edges.length ≤ 30) (hi : EdgesIn p.tasks.toNat p.edges) :
  Calls Tryz.prog 216 #[.agg cs.toArray] w fun e w' => ∃ (v : Value) (fp' : List Nat), e = .returned v ∧ St w w' [Res.own v (eI (dS p.edges (List.replicate p.tasks.toNat 0) p.tasks.toNat)) fp'] := by
 refine cO Tryz.func216 rfl Tryz.ntmps216 aW (wp_seq (aA (sg (aJ (cs := cs) rfl (St.start w) ?_)))); intro b1 W2 hb3 st4
 refine sg (aC (v := .slice none 0 0) rfl (aB (wp_seq (aA ?_))))
 have hk9 := hc
 obtain ⟨v9_0, g9_0, rfl, hok9, h9_0, rfl⟩ := hk9
 refine sg (aH wB rfl (sg (aU eA rfl rfl (st4.get 0 rfl) (i := 3) rfl rfl ?_)))
 have hNI : I p.tasks = I ((p.tasks.toNat : Nat) : Int) := congrArg I (Int.toNat_of_nonneg aD).symm
 refine sg (vD (α := Int) (N := p.tasks.toNat) (v := I 0) (z := 0) cY aE ((show _ = I p.tasks from rfl).trans hNI) ((show _ = I p.tasks from rfl).trans hNI) aD aD st4 (fun W => ⟨rfl, rfl, by unfold I64; omega⟩) ?_); intro b11 fp15 W12 hb13 st14
 refine sg (aC (v := (.slice (some ⟨b11, 0, none⟩) p.tasks.toNat p.tasks.toNat)) rfl (aB (wp_seq (wp_seq (aA (rn st14 3 (Ag.up (t := 7) (v := I (p.tasks.toNat : Int)) ((show _ = I p.tasks from rfl).trans hNI) Ag.nil.put.put.put.put.put.put.put) [] [(10, I p.tasks), (11, I 0)] [qb 1 rfl 3] aE fun f20 h20_ => (aB (wp_block (aZ (fun (m : Nat) (f : Nat → Value) (W : World) => ∃ (k : Nat) (fo21 : List Nat), k ≤ p.tasks.toNat ∧ m = p.tasks.toNat - k ∧ Ag [(1, .pointer (some ⟨b1, 0, none⟩)), (3, (.slice (some ⟨b11, 0, none⟩) p.tasks.toNat p.tasks.toNat)), (10, I p.tasks), (11, I (k : Int))] f ∧ St w W ([Res.own (α := List Int) (.slice (some ⟨b11, 0, none⟩) p.tasks.toNat p.tasks.toNat) (eI (dS p.edges (List.replicate p.tasks.toNat 0) k)) fo21, Res.bx b1 [I p.prio, I p.most, I p.wait, I p.tasks, v9_0] 106])) (p.tasks.toNat - 0) ?_ ?_)))))))))
 ·exact ⟨0, fp15, (by first | omega | simp), rfl, (h20_.to aE), (by have hz := st14; rw [castL_rep] at hz; exact hz)⟩
 intro m22 f23 W24 hJ25
 obtain ⟨k, fo21, hcd27_0, rfl, hA27, st26⟩ := hJ25
 refine wp_seq (aA (sg (bV (hA27.at 11) (hA27.at 10) (aB (wp_seq (aM rfl (fun h30p => ?_) (fun h30p => ?_)))))))
 ·refine wp_skip (wp_seq (wp_block (wp_seq (aA (rn st26 4 hA27.put [] [(14, v9_0), (15, I (p.edges.length : Int)), (16, I 0)] [qb 1 rfl 4, ql h9_0] aE fun f32 h32_ => (aB (wp_block (aZ (fun (m : Nat) (f : Nat → Value) (W : World) => ∃ (i : Nat) (fo33 : List Nat), i ≤ p.edges.length ∧ m = p.edges.length - i ∧ Ag [(1, .pointer (some ⟨b1, 0, none⟩)), (3, (.slice (some ⟨b11, 0, none⟩) p.tasks.toNat p.tasks.toNat)), (10, I p.tasks), (11, I (k : Int)), (14, v9_0), (15, I (p.edges.length : Int)), (16, I (i : Int))] f ∧ St w W ([Res.own (α := List Int) (.slice (some ⟨b11, 0, none⟩) p.tasks.toNat p.tasks.toNat) (eI (hG (p.edges.take i) (dS p.edges (List.replicate p.tasks.toNat 0) k))) fo33, Res.bx b1 [I p.prio, I p.most, I p.wait, I p.tasks, v9_0] 106])) (p.edges.length - 0) ?_ ?_))))))))
  ·exact ⟨0, fo21, (by first | omega | simp), rfl, (h32_.to aE), st26⟩
  intro m34 f35 W36 hJ37
  obtain ⟨i, fo33, hcd39_0, rfl, hA39, st38⟩ := hJ37
  refine wp_seq (aA (sg (bV (hA39.at 16) (hA39.at 15) (aB (wp_seq (aM rfl (fun h42p => ?_) (fun h42p => ?_)))))))
  ·refine wp_skip (wp_seq (wp_block (wp_seq (aA ?_))))
   have hi99fa3 : i < p.edges.length := aD
   have hq_ := idx h9_0 (i := i) hi99fa3
   obtain ⟨b43, o43, cs43, f43, hp43, hr43, hc43, hm43⟩ := hq_
   refine sg (aN jA (hA39.at 14) hp43 (hA39.at 16) rfl (sg (cW fZ rfl rfl hr43 st38.below (Shape.len hc43) (sg (aP lA st38 ?_))))); intro b46 W47 hb48 st49
   refine sg (aL (cs := cs43) fZ hc43 rfl rfl st49 rfl ?_); intro W51 st52
   refine aB ?_
   have hk53 := hc43
   obtain ⟨he53, rfl, hok53⟩ := hk53
   have he53 : _ = [I (p.edges[i]'hi99fa3).from_, I (p.edges[i]'hi99fa3).to_] := he53
   subst he53
   have hea := hi.at (k := i) aD
   have hxl : (eI (hG (p.edges.take i) (dS p.edges (List.replicate p.tasks.toNat 0) k))).length = p.tasks.toNat := by rw [wG, rJ, jG, List.length_replicate]
   have hbd := tO (n := p.tasks.toNat) aD (es := p.edges.take i) (fun e he => hi e (List.mem_of_mem_take he)) (vK aD hi k)
   have hi3a21e : ((p.edges[i]'hi99fa3).from_).toNat < (eI (hG (p.edges.take i) (dS p.edges (List.replicate p.tasks.toNat 0) k))).length := aD
   have hq_ := idx (aI (st52.get 1 rfl)) (i := ((p.edges[i]'hi99fa3).from_).toNat) hi3a21e
   obtain ⟨b54, o54, cs54, f54, hp54, hr54, hc54, hm54⟩ := hq_
   have hk54 := hc54
   obtain ⟨rfl, rfl, hok54⟩ := hk54
   have hid0fd1 : ((p.edges[i]'hi99fa3).to_).toNat < (eI (hG (p.edges.take i) (dS p.edges (List.replicate p.tasks.toNat 0) k))).length := aD
   have hq_ := idx (aI (st52.get 1 rfl)) (i := ((p.edges[i]'hi99fa3).to_).toNat) hid0fd1
   obtain ⟨b55, o55, cs55, f55, hp55, hr55, hc55, hm55⟩ := hq_
   have hk55 := hc55
   obtain ⟨rfl, rfl, hok55⟩ := hk55
   refine sM 16 [Pl.is ((.slice (some ⟨b11, 0, none⟩) p.tasks.toNat p.tasks.toNat)) (Sl.yl (aI (st52.get 1 rfl))), Pl.is (.pointer (some ⟨b46, 0 + 0, none⟩)), Pl.is (I (p.edges[i]'hi99fa3).from_), Pl.is (.pointer (some ⟨b54, o54, none⟩)), Pl.is (I ((eI (hG (p.edges.take i) (dS p.edges (List.replicate p.tasks.toNat 0) k)))[((p.edges[i]'hi99fa3).from_).toNat]'hi3a21e)), Pl.is (.pointer (some ⟨b46, 0 + 1, none⟩)), Pl.is (I (p.edges[i]'hi99fa3).to_), Pl.is (I (uX (p.edges[i]'hi99fa3).to_)), Pl.is ((.slice (some ⟨b11, 0, none⟩) p.tasks.toNat p.tasks.toNat)) (Sl.yl (aI (st52.get 1 rfl))), Pl.is (.pointer (some ⟨b46, 0 + 1, none⟩)), Pl.is (I (p.edges[i]'hi99fa3).to_), Pl.is (.pointer (some ⟨b55, o55, none⟩)), Pl.is (I ((eI (hG (p.edges.take i) (dS p.edges (List.replicate p.tasks.toNat 0) k)))[((p.edges[i]'hi99fa3).to_).toNat]'hid0fd1)), Pl.is (I (orI (uX (p.edges[i]'hi99fa3).to_) ((eI (hG (p.edges.take i) (dS p.edges (List.replicate p.tasks.toNat 0) k)))[((p.edges[i]'hi99fa3).to_).toNat]'hid0fd1))), Pl.is (I (orI ((eI (hG (p.edges.take i) (dS p.edges (List.replicate p.tasks.toNat 0) k)))[((p.edges[i]'hi99fa3).from_).toNat]'hi3a21e) (orI (uX (p.edges[i]'hi99fa3).to_) ((eI (hG (p.edges.take i) (dS p.edges (List.replicate p.tasks.toNat 0) k)))[((p.edges[i]'hi99fa3).to_).toNat]'hid0fd1)))), Pl.is (.pointer (some ⟨b54, o54, none⟩))] mix (by rfl) (by rfl) st52 ⟨(fun f W hst hbl hd hf => aG (v := (.slice (some ⟨b11, 0, none⟩) p.tasks.toNat p.tasks.toNat)) ((hf 3 rfl).trans (hA39.at 3)) brq), (fun f W hst hbl hd hf => aH wC ((hf 5 rfl).trans (show _ = (.pointer (some ⟨b46, 0, none⟩) : Value) from rfl)) brq), (fun f W hst hbl hd hf => aU eA rfl (hd 1 21 rfl rfl) (hst.get 0 rfl) (i := 0) rfl rfl brq), (fun f W hst hbl hd hf => aN eQ (hd 0 20 rfl rfl) hp54 (hd 2 22 rfl rfl) aD brq), (fun f W hst hbl hd hf => eL eA rfl (hd 3 23 rfl rfl) hr54 hbl (i := 0) rfl rfl brq), (fun f W hst hbl hd hf => aH rQ ((hf 5 rfl).trans (show _ = (.pointer (some ⟨b46, 0, none⟩) : Value) from rfl)) brq), (fun f W hst hbl hd hf => aU eA rfl (hd 5 25 rfl rfl) (hst.get 0 rfl) (i := 1) rfl rfl brq), (fun f W hst hbl hd hf => stp_shlI rfl (hd 6 26 rfl rfl) aD brq), (fun f W hst hbl hd hf => aG (v := (.slice (some ⟨b11, 0, none⟩) p.tasks.toNat p.tasks.toNat)) ((hf 3 rfl).trans (hA39.at 3)) brq), (fun f W hst hbl hd hf => aH rQ ((hf 5 rfl).trans (show _ = (.pointer (some ⟨b46, 0, none⟩) : Value) from rfl)) brq), (fun f W hst hbl hd hf => aU eA rfl (hd 9 29 rfl rfl) (hst.get 0 rfl) (i := 1) rfl rfl brq), (fun f W hst hbl hd hf => aN eQ (hd 8 28 rfl rfl) hp55 (hd 10 30 rfl rfl) aD brq), (fun f W hst hbl hd hf => eL eA rfl (hd 11 31 rfl rfl) hr55 hbl (i := 0) rfl rfl brq), (fun f W hst hbl hd hf => zJ (hd 7 27 rfl rfl) (hd 12 32 rfl rfl) (tD aD) (jM hbd _ _) brq), (fun f W hst hbl hd hf => zJ (hd 4 24 rfl rfl) (hd 13 33 rfl rfl) (jM hbd _ _) (wW (tD aD) (jM hbd _ _)) brq), (fun f W hst hbl hd hf => aN eQ (hd 0 20 rfl rfl) hp54 (hd 2 22 rfl rfl) aD brq), trivial⟩ ?_
   intro f56 W57 st58 hb59 hv60 hf61
   refine sg (rD (α := Int) (z := orI ((eI (hG (p.edges.take i) (dS p.edges (List.replicate p.tasks.toNat 0) k)))[((p.edges[i]'hi99fa3).from_).toNat]'hi3a21e) (orI (uX (p.edges[i]'hi99fa3).to_) ((eI (hG (p.edges.take i) (dS p.edges (List.replicate p.tasks.toNat 0) k)))[((p.edges[i]'hi99fa3).to_).toNat]'hid0fd1))) rfl aE (hv60 15 35 aW rfl) hp54 hi3a21e (hv60 14 34 aW rfl) rfl rfl st58.f1 (fun W => ⟨rfl, rfl, (I64_rng (wW (jM hbd _ _) (wW (tD aD) (jM hbd _ _))))⟩) ?_); intro fp64 W65 st66
   refine aB (aA (sg (bQ ((hf61 16 rfl).trans (hA39.at 16)) rfl dJ (sg (aG (v := I ((i : Int) + 1)) rfl (aB ?_))))))
   exact ⟨_, p.edges.length - (i + 1), aD, rfl, i + 1, fp64, aD, rfl, (Ag.cons ((hf61 1 rfl).trans (hA39.at 1)) (Ag.cons ((hf61 3 rfl).trans (hA39.at 3)) (Ag.cons ((hf61 10 rfl).trans (hA39.at 10)) (Ag.cons ((hf61 11 rfl).trans (hA39.at 11)) (Ag.cons ((hf61 14 rfl).trans (hA39.at 14)) (Ag.cons ((hf61 15 rfl).trans (hA39.at 15)) (Ag.cons rfl Ag.nil))))))), (by rw [relax_snoc _ _ _ aD, ← castL_relax1 (m := (hG (p.edges.take i) (dS p.edges (List.replicate p.tasks.toNat 0) k))) (e := p.edges[i]) aD aD aD]; exact st66.f2.f1.d2)⟩
  ·refine wp_exit (aA (sg (bQ (hA39.at 11) rfl dJ (sg (aG (v := I ((k : Int) + 1)) rfl (aB ?_))))))
   exact ⟨_, p.tasks.toNat - (k + 1), aD, rfl, k + 1, fo33, aD, rfl, (hA39.put.put.put.to aE), (by rw [show dS p.edges (List.replicate p.tasks.toNat 0) (k + 1) = hG (p.edges.take i) (dS p.edges (List.replicate p.tasks.toNat 0) k) from by rw [show i = p.edges.length by omega, List.take_length]; rfl]; exact st38)⟩
 ·refine wp_exit (wp_seq (aA (sg (aG (v := (.slice (some ⟨b11, 0, none⟩) p.tasks.toNat p.tasks.toNat)) (hA27.at 3) (sg (aC (v := (.slice (some ⟨b11, 0, none⟩) p.tasks.toNat p.tasks.toNat)) rfl (aB (wr (aO Tryz.results216 rfl ?_)))))))))
  obtain rfl : k = p.tasks.toNat := by omega
  exact ⟨_, _, rfl, st26.only 0 rfl⟩
theorem FromS (w : World) {p : Plan} {cs : List Value} {fp : List Nat} (hc : Shape.C w cs p fp) (t : Int) (hn : 1 ≤ p.tasks ∧ p.tasks ≤ 12) (hl : p.edges.length ≤ 30) (hi : EdgesIn p.tasks.toNat p.edges) (ht : 0 ≤ t ∧ t < p.tasks) :
  Calls Tryz.prog 213 #[.agg cs.toArray, I t] w fun e w' => ∃ (v : Value) (fp' : List Nat), e = .returned v ∧ St w w' [Res.own v (mN p.edges p.tasks.toNat t) fp'] := by
 refine bX Tryz.func213 rfl Tryz.ntmps213 aW (wp_seq (aA (sg (aJ (cs := cs) rfl (St.start w) ?_)))); intro b1 W2 hb3 st4
 refine sg (aC (v := .slice none 0 0) rfl (aB (wp_seq (aA ?_))))
 have hk9 := hc
 obtain ⟨v9_0, g9_0, rfl, hok9, h9_0, rfl⟩ := hk9
 refine sg (aH wB rfl (sg (aU eA rfl rfl (st4.get 0 rfl) (i := 3) rfl rfl ?_)))
 have hNI : I p.tasks = I ((p.tasks.toNat : Nat) : Int) := congrArg I (Int.toNat_of_nonneg aD).symm
 refine sg (vD (α := Bool) (N := p.tasks.toNat) (v := .bool false) (z := false) ap_boolS aE ((show _ = I p.tasks from rfl).trans hNI) ((show _ = I p.tasks from rfl).trans hNI) aD aD st4 (fun W => ⟨rfl, rfl, trivial⟩) ?_); intro b11 fp15 W12 hb13 st14
 refine sg (aC (v := (.slice (some ⟨b11, 0, none⟩) p.tasks.toNat p.tasks.toNat)) rfl (aB (wp_seq (aA (sg (aG (v := I t) rfl (sg (aS (cs := [I t]) (e := 3) (cU (v := I t) rfl dM) (bJ cY _ _ rfl rfl aW) st14 ?_)))))))); intro b21 W22 hb23 st24
 refine sg (aC (v := .slice (some ⟨b21, 0, none⟩) 1 1) rfl (aB (wp_seq (wp_seq (aA (sg (aC (v := I 0) rfl (aB (wp_block ?_)))))))))
 have st30 := St.row_lit (α := Int) (ys := [t]) st24 rfl bM (Elems.ic dJ Elems.i0)
 refine aZ (fun (m : Nat) (f : Nat → Value) (W : World) => ∃ (q : List Int) (out : List Bool) (h : Nat) (v31 : Value) (fo32 : List Nat), BInv p.edges p.tasks.toNat t q out h 0 ∧ h ≤ q.length ∧ m = p.tasks.toNat + 2 - h ∧ Ag [(2, .pointer (some ⟨b1, 0, none⟩)), (5, (.slice (some ⟨b11, 0, none⟩) p.tasks.toNat p.tasks.toNat)), (6, v31), (7, I (h : Int))] f ∧ St w W ([Res.row (α := Int) 3 v31 q [], Res.own (α := List Bool) (.slice (some ⟨b11, 0, none⟩) p.tasks.toNat p.tasks.toNat) out fo32, Res.bx b1 [I p.prio, I p.most, I p.wait, I p.tasks, v9_0] 106])) (p.tasks.toNat + 2 - 0) ?_ ?_
 ·exact ⟨[t], (List.replicate p.tasks.toNat false), 0, (.slice (some ⟨b21, 0, none⟩) 1 1), fp15, BInv.start, (by simp), rfl, ((Ag.up (t := 11) (v := I (p.tasks.toNat : Int)) ((show _ = I p.tasks from rfl).trans hNI) Ag.nil.put.put.put.put.put.put.put.put.put.put.put.put).to aE), st30⟩
 intro m33 f34 W35 hJ36
 obtain ⟨q, out, h, v31, fo32, hB, hh, rfl, hA38, st37⟩ := hJ36
 have hBl := hB.len_le
 refine wp_seq (wp_seq (aA (rn st37 4 hA38 [] [(18, .bool (decide ((h : Int) < (q.length : Int))))] [ql (bS (st37.get 0 rfl)), .o] aE fun f40 h40_ => (aB (aM (h40_.at 18) (fun h41p => ?_) (fun h41p => ?_))))))
 ·refine wp_skip (wp_seq (wp_block (wp_seq (aA (sg (aC (v := I 0) rfl (aB (wp_block (aZ (fun (m : Nat) (f : Nat → Value) (W : World) => ∃ (q2 : List Int) (out2 : List Bool) (i : Nat) (v44 : Value) (fo45 : List Nat), BInv p.edges p.tasks.toNat t q2 out2 h i ∧ h < q2.length ∧ i ≤ p.edges.length ∧ m = p.edges.length - i ∧ Ag [(2, .pointer (some ⟨b1, 0, none⟩)), (5, (.slice (some ⟨b11, 0, none⟩) p.tasks.toNat p.tasks.toNat)), (6, v44), (7, I (h : Int)), (8, I (i : Int))] f ∧ St w W ([Res.row (α := Int) 3 v44 q2 [], Res.own (α := List Bool) (.slice (some ⟨b11, 0, none⟩) p.tasks.toNat p.tasks.toNat) out2 fo45, Res.bx b1 [I p.prio, I p.most, I p.wait, I p.tasks, v9_0] 106])) (p.edges.length - 0) ?_ ?_)))))))))
  ·exact ⟨q, out, 0, v31, fo32, hB, aD, aD, rfl, (h40_.put.to aE), st37⟩
  intro m46 f47 W48 hJ49
  obtain ⟨q2, out2, i, v44, fo45, hB2, hh2, hi2, rfl, hA51, st50⟩ := hJ49
  have hBl2 := hB2.len_le
  have hol2 := hB2.len
  refine wp_seq (wp_seq (aA (rn st50 5 hA51 [] [(25, .bool (decide ((i : Int) < (p.edges.length : Int))))] [qb 2 rfl 4, ql h9_0, .o] aE fun f53 h53_ => (aB (aM (h53_.at 25) (fun h54p => ?_) (fun h54p => ?_))))))
  ·refine wp_skip (wp_seq (wp_block (wp_seq (aA ?_))))
   have hi99fa3 : i < p.edges.length := aD
   have hq_ := idx h9_0 (i := i) hi99fa3
   obtain ⟨b56, o56, cs56, f56, hp56, hr56, hc56, hm56⟩ := hq_
   refine rn st50 5 h53_ [] [(32, .agg cs56.toArray)] [qb 2 rfl 4, qx hp56, qrw hr56 (Shape.len hc56)] aE fun f57 h57_ => (sg (aP lA st50 ?_)); intro b58 W59 hb60 st61
   refine sg (aL (cs := cs56) fZ hc56 rfl (h57_.at 32) st61 rfl ?_); intro W63 st64
   refine aB (wp_seq ?_)
   have hi8f4b8 : h < q2.length := aD
   rcases nem ((p.edges[i]'hi99fa3).from_ = (q2[h]'hi8f4b8)) with h68p | h68p
   ·have h68 := decide_eq_false h68p
    have hea := hi.at (k := i) aD
    have hk70 := hc56
    obtain ⟨he70, rfl, hok70⟩ := hk70
    have he70 : _ = [I (p.edges[i]'hi99fa3).from_, I (p.edges[i]'hi99fa3).to_] := he70
    subst he70
    have hi8f4b8 : h < q2.length := aD
    have hq_ := idx (bS (st64.get 1 rfl)) (i := h) hi8f4b8
    obtain ⟨b71, o71, cs71, f71, hp71, hr71, hc71, hm71⟩ := hq_
    have hk71 := hc71
    obtain ⟨rfl, rfl, hok71⟩ := hk71
    refine rd st64 h57_.put [] [(47, .bool false)] [qb 0 rfl 0, qx hp71, qn hr71 0, qk h68] aE aE fun f72 W73 h72_ st74 hb75 => (gQ (h72_.at 47) rfl (wp_skip (aA (rn st74 3 h72_ [8] [(8, I ((i : Int) + 1))] [qad (i : Int) 1] aE fun f77 h77_ => (aB ?_)))))
    exact ⟨_, p.edges.length - (i + 1), aD, rfl, q2, out2, i + 1, v44, fo45, (hB2.skip1 hi aD aD h68p), aD, aD, rfl, (h77_.to aE), st74.f3.f3.f3.d3⟩
   ·have h68 := decide_eq_true h68p
    have hea := hi.at (k := i) aD
    have hk83 := hc56
    obtain ⟨he83, rfl, hok83⟩ := hk83
    have he83 : _ = [I (p.edges[i]'hi99fa3).from_, I (p.edges[i]'hi99fa3).to_] := he83
    subst he83
    have hi8f4b8 : h < q2.length := aD
    have hq_ := idx (bS (st64.get 1 rfl)) (i := h) hi8f4b8
    obtain ⟨b84, o84, cs84, f84, hp84, hr84, hc84, hm84⟩ := hq_
    have hk84 := hc84
    obtain ⟨rfl, rfl, hok84⟩ := hk84
    have hi76505 : ((p.edges[i]'hi99fa3).to_).toNat < out2.length := aD
    have hq_ := idx (aI (st64.get 2 rfl)) (i := ((p.edges[i]'hi99fa3).to_).toNat) hi76505
    obtain ⟨b85, o85, cs85, f85, hp85, hr85, hc85, hm85⟩ := hq_
    have hk85 := hc85
    obtain ⟨rfl, rfl, hok85⟩ := hk85
    refine rd st64 h57_.put [] [(47, .bool (!(out2[((p.edges[i]'hi99fa3).to_).toNat]'hi76505)))] [qb 0 rfl 0, qx hp84, qn hr84 0, qk h68, qb 0 rfl 1, qxe hp85 (e := (p.edges[i]'hi99fa3).to_) aD, qn hr85 0, .o] aE aE fun f86 W87 h86_ st88 hb89 => (cM (h86_.at 47) (fun h90 => ?_) (fun h90 => ?_))
    ·refine wp_seq (aA ?_)
     have hi76505 : ((p.edges[i]'hi99fa3).to_).toNat < out2.length := aD
     have hq_ := idx (aI (st88.get 2 rfl)) (i := ((p.edges[i]'hi99fa3).to_).toNat) hi76505
     obtain ⟨b92, o92, cs92, f92, hp92, hr92, hc92, hm92⟩ := hq_
     have hk92 := hc92
     obtain ⟨rfl, rfl, hok92⟩ := hk92
     refine rn st88 4 h86_ [] [(51, .pointer (some ⟨b92, o92, none⟩))] [qb 0 rfl 1, qxe hp92 (e := (p.edges[i]'hi99fa3).to_) aD] aE fun f93 h93_ => (sg (rD (α := Bool) (z := true) rfl aE (h93_.at 51) hp92 hi76505 rfl rfl rfl st88.f2 (fun W => ⟨rfl, rfl, trivial⟩) ?_)); intro fp95 W96 st97
     refine aB (aA (rn st97 3 h93_ [] [(52, v44), (54, I (p.edges[i]'hi99fa3).to_)] [qb 1 rfl 1] aE fun f99 h99_ => (sg (aS (cs := [I (p.edges[i]'hi99fa3).to_]) (e := 3) (cU (v := I (p.edges[i]'hi99fa3).to_) (h99_.at 54) dM) (bJ cY _ _ rfl rfl aW) st97 ?_)))); intro b100 W101 hb102 st103
     have hxx := hB2.add1 hi aD aD (by assumption) aD (by assumption)
     have hxl := hxx.len_le
     rw [List.length_append] at hxl
     refine sg (cN (ys := [(p.edges[i]'hi99fa3).to_]) cY (h99_.at 52) rfl rfl st103.f3 (Elems.ic (by simp only [I64]; omega) Elems.i0) (by unfold maxLen; omega) aD ?_); intro v106 W107 st108
     refine sg (aC (v := v106) rfl (aB (aA (rn st108 3 h99_.put.put.put [8] [(8, I ((i : Int) + 1))] [qad (i : Int) 1] aE fun f112 h112_ => (aB ?_)))))
     exact ⟨_, p.edges.length - (i + 1), aD, rfl, q2 ++ [(p.edges[i]'hi99fa3).to_], (out2).set ((p.edges[i]'hi99fa3).to_).toNat true, i + 1, v106, fp95, (hB2.add1 hi aD aD h68p aD h90), (by rw [List.length_append]; omega), aD, rfl, (h112_.to aE), st108.f3.f2.f2.d3⟩
    ·refine wp_skip (aA (rn st88 3 h86_ [8] [(8, I ((i : Int) + 1))] [qad (i : Int) 1] aE fun f118 h118_ => (aB ?_)))
     exact ⟨_, p.edges.length - (i + 1), aD, rfl, q2, out2, i + 1, v44, fo45, (hB2.skip2 hi aD aD aD h90), aD, aD, rfl, (h118_.to aE), st88.f3.f3.f3.d3⟩
  ·refine wp_exit (aA (rn st50 3 h53_ [7] [(7, I ((h : Int) + 1))] [qad (h : Int) 1] aE fun f124 h124_ => (aB ?_)))
   exact ⟨_, p.tasks.toNat + 2 - (h + 1), aD, rfl, q2, out2, h + 1, v44, fo45, (hB2.next aD), aD, rfl, (h124_.to aE), st50⟩
 ·refine wp_exit (wp_seq (aA (sg (aG (v := (.slice (some ⟨b11, 0, none⟩) p.tasks.toNat p.tasks.toNat)) (h40_.at 5) (sg (aC (v := (.slice (some ⟨b11, 0, none⟩) p.tasks.toNat p.tasks.toNat)) rfl (aB (wr (aO Tryz.results213 rfl ?_)))))))))
  have st127 := st37.f1
  have hall := hB.all aD
  rw [hall] at st127
  exact ⟨_, _, rfl, st127.only 0 rfl⟩
theorem ManyS (w : World) {p : Plan} {cs : List Value} {fp : List Nat} (hc : Shape.C w cs p fp) :
  Calls Tryz.prog 212 #[.agg cs.toArray] w fun e w' => e = .returned (.bool (pB (cT p))) ∧ St w w' [] := by
 refine cO Tryz.func212 rfl Tryz.ntmps212 aW (wp_seq (aA (sg (aJ (cs := cs) rfl (St.start w) ?_)))); intro b1 W2 hb3 st4
 refine sg (aC (v := .bool false) rfl (aB (wp_seq (aA ?_))))
 have hk9 := hc
 obtain ⟨v9_0, g9_0, rfl, hok9, h9_0, rfl⟩ := hk9
 rcases bd (!(inB p.tasks 1 12)) with h10 | h10
 ·have h10p := inB_iff'.1 (bB h10)
  rcases nem (30 < (p.edges.length : Int)) with h11p | h11p
  ·have h11 := decide_eq_false h11p
   rcases bd (!(inB p.prio 0 9)) with h12 | h12
   ·have h12p := inB_iff'.1 (bB h12)
    rcases bd (!(inB p.most 1 5)) with h13 | h13
    ·have h13p := inB_iff'.1 (bB h13)
     refine rc st4 29 Ag.nil.put.put.put [2] [(2, .bool (!(inB p.wait 1 20)))] [qb 0 rfl 3, qc Tryz.func43 rfl (fun W s b => cI W p.tasks 1 12), qk h10, qb 0 rfl 4, ql h9_0, qk h11, qb 0 rfl 0, qc Tryz.func43 rfl (fun W s b => cI W p.prio 0 9), qk h12, qb 0 rfl 1, qc Tryz.func43 rfl (fun W s b => cI W p.most 1 5), qk h13, qb 0 rfl 2, qc Tryz.func43 rfl (fun W s b => cI W p.wait 1 20), .o] aE fun f14 W15 h14_ st16 hb17 => (aB ?_)
     rcases bd (!(inB p.wait 1 20)) with h18 | h18
     ·have h18p := inB_iff'.1 (bB h18)
      refine wr (aO Tryz.results212 ((h14_.at 2).trans (congrArg Value.bool h18)) ?_)
      exact ⟨(fB (by rw [cP (by unfold cT; omega)])), st16.bare⟩
     ·have h18p := cH (aX h18)
      refine wr (aO Tryz.results212 ((h14_.at 2).trans (congrArg Value.bool h18)) ?_)
      exact ⟨(fB (by rw [gI (by unfold cT; omega)])), st16.bare⟩
    ·have h13p := cH (aX h13)
     refine rc st4 29 Ag.nil.put.put.put [2] [(2, .bool true)] [qb 0 rfl 3, qc Tryz.func43 rfl (fun W s b => cI W p.tasks 1 12), qk h10, qb 0 rfl 4, ql h9_0, qk h11, qb 0 rfl 0, qc Tryz.func43 rfl (fun W s b => cI W p.prio 0 9), qk h12, qb 0 rfl 1, qc Tryz.func43 rfl (fun W s b => cI W p.most 1 5), qk h13] aE fun f19 W20 h19_ st21 hb22 => (aB (wr (aO Tryz.results212 (h19_.at 2) ?_)))
     exact ⟨(fB (by rw [gI (by unfold cT; omega)])), st21.bare⟩
   ·have h12p := cH (aX h12)
    refine rc st4 29 Ag.nil.put.put.put [2] [(2, .bool true)] [qb 0 rfl 3, qc Tryz.func43 rfl (fun W s b => cI W p.tasks 1 12), qk h10, qb 0 rfl 4, ql h9_0, qk h11, qb 0 rfl 0, qc Tryz.func43 rfl (fun W s b => cI W p.prio 0 9), qk h12] aE fun f23 W24 h23_ st25 hb26 => (aB (wr (aO Tryz.results212 (h23_.at 2) ?_)))
    exact ⟨(fB (by rw [gI (by unfold cT; omega)])), st25.bare⟩
  ·have h11 := decide_eq_true h11p
   refine rc st4 29 Ag.nil.put.put.put [2] [(2, .bool true)] [qb 0 rfl 3, qc Tryz.func43 rfl (fun W s b => cI W p.tasks 1 12), qk h10, qb 0 rfl 4, ql h9_0, qk h11] aE fun f27 W28 h27_ st29 hb30 => (aB (wr (aO Tryz.results212 (h27_.at 2) ?_)))
   exact ⟨(fB (by rw [gI (by unfold cT; omega)])), st29.bare⟩
 ·have h10p := cH (aX h10)
  refine rc st4 29 Ag.nil.put.put.put [2] [(2, .bool true)] [qb 0 rfl 3, qc Tryz.func43 rfl (fun W s b => cI W p.tasks 1 12), qk h10] aE fun f31 W32 h31_ st33 hb34 => (aB (wr (aO Tryz.results212 (h31_.at 2) ?_)))
  exact ⟨(fB (by rw [gI (by unfold cT; omega)])), st33.bare⟩
theorem mU (w : World) {p : Plan} {cs : List Value} {fp : List Nat} (hc : Shape.C w cs p fp) :
  Calls Tryz.prog 160 #[.agg cs.toArray] w fun e w' => e = .returned (I (cX p)) ∧ St w w' [] := by
 refine cO Tryz.func160 rfl Tryz.ntmps160 aW (wp_seq (aA (sg (aJ (cs := cs) rfl (St.start w) ?_)))); intro b1 W2 hb3 st4
 refine sg (aC (v := I 0) rfl (aB (wp_seq (wp_seq (aA ?_)))))
 have hk9 := hc
 obtain ⟨v9_0, g9_0, rfl, hok9, h9_0, rfl⟩ := hk9
 rcases bd (!(inB p.tasks 1 12)) with h10 | h10
 ·have h10p := inB_iff'.1 (bB h10)
  rcases nem (30 < (p.edges.length : Int)) with h11p | h11p
  ·have h11 := decide_eq_false h11p
   rcases bd (!(inB p.prio 0 9)) with h12 | h12
   ·have h12p := inB_iff'.1 (bB h12)
    rcases bd (!(inB p.most 1 5)) with h13 | h13
    ·have h13p := inB_iff'.1 (bB h13)
     refine rc st4 28 Ag.nil.put.put.put [] [(36, .bool (!(inB p.wait 1 20)))] [qb 0 rfl 3, qc Tryz.func47 rfl (fun W s b => bW W p.tasks 1 12), qk h10, qb 0 rfl 4, ql h9_0, qk h11, qb 0 rfl 0, qc Tryz.func47 rfl (fun W s b => bW W p.prio 0 9), qk h12, qb 0 rfl 1, qc Tryz.func47 rfl (fun W s b => bW W p.most 1 5), qk h13, qb 0 rfl 2, qc Tryz.func47 rfl (fun W s b => bW W p.wait 1 20), .o] aE fun f14 W15 h14_ st16 hb17 => (aB (cM (h14_.at 36) (fun h18 => ?_) (fun h18 => ?_)))
     ·have h18p := cH (aX h18)
      refine wp_seq (aA (sg (aC (v := I 1) rfl (aB (wr (aO Tryz.results160 rfl ?_))))))
      exact ⟨(fI (by rw [pf1 (by unfold cT; omega)])), st16.bare⟩
     ·have h18p := inB_iff'.1 (bB h18)
      refine wp_skip (wp_seq (wp_seq (aA ?_)))
      have hM : ¬ cT p := by unfold cT; omega
      have hMb := pM hM
      refine rn st16 4 h14_ [] [(38, v9_0), (39, I (p.edges.length : Int)), (40, I 0)] [qb 0 rfl 4, ql h9_0] aE fun f22 h22_ => (aB (wp_block (aZ (fun (m : Nat) (f : Nat → Value) (W : World) => ∃ (k : Nat), k ≤ p.edges.length ∧ EdgesIn p.tasks.toNat (p.edges.take k) ∧ m = p.edges.length - k ∧ Ag [(1, .pointer (some ⟨b1, 0, none⟩)), (38, v9_0), (39, I (p.edges.length : Int)), (40, I (k : Int))] f ∧ St w W ([Res.bx b1 [I p.prio, I p.most, I p.wait, I p.tasks, v9_0] 106])) (p.edges.length - 0) ?_ ?_)))
      ·exact ⟨0, aD, EdgesIn.nil, rfl, (h22_.to aE), st16⟩
      intro m23 f24 W25 hJ26
      obtain ⟨k, hk, hEk, rfl, hA28, st27⟩ := hJ26
      refine wp_seq (aA (sg (bV (hA28.at 40) (hA28.at 39) (aB (wp_seq (aM rfl (fun h31p => ?_) (fun h31p => ?_)))))))
      ·refine wp_skip (wp_seq (wp_block (wp_seq (aA ?_))))
       have hiab516 : k < p.edges.length := aD
       have hq_ := idx h9_0 (i := k) hiab516
       obtain ⟨b32, o32, cs32, f32, hp32, hr32, hc32, hm32⟩ := hq_
       refine sg (aN jA (hA28.at 38) hp32 (hA28.at 40) rfl (sg (cW fZ rfl rfl hr32 st27.below (Shape.len hc32) (sg (aP lA st27 ?_))))); intro b35 W36 hb37 st38
       refine sg (aL (cs := cs32) fZ hc32 rfl rfl st38 rfl ?_); intro W40 st41
       refine aB (wp_seq (aA ?_))
       have hk43 := hc32
       obtain ⟨he43, rfl, hok43⟩ := hk43
       have he43 : _ = [I (p.edges[k]'hiab516).from_, I (p.edges[k]'hiab516).to_] := he43
       subst he43
       rcases bd (!(inB (p.edges[k]'hiab516).from_ 0 (p.tasks - 1))) with h44 | h44
       ·have h44p := inB_iff'.1 (bB h44)
        refine rc st41 16 hA28.put.put.put.put [] [(59, .bool (!(inB (p.edges[k]'hiab516).to_ 0 (p.tasks - 1))))] [qb 0 rfl 0, qb 1 rfl 3, qsb p.tasks 1, qc (args := [I (p.edges[k]'hiab516).from_, I 0, I (p.tasks - 1)]) (v := .bool (inB (p.edges[k]'hiab516).from_ 0 (p.tasks - 1))) Tryz.func47 rfl (fun W s b => bW W (p.edges[k]'hiab516).from_ 0 (p.tasks - 1)), qk h44, qb 0 rfl 1, qb 1 rfl 3, qsb p.tasks 1, qc (args := [I (p.edges[k]'hiab516).to_, I 0, I (p.tasks - 1)]) (v := .bool (inB (p.edges[k]'hiab516).to_ 0 (p.tasks - 1))) Tryz.func47 rfl (fun W s b => bW W (p.edges[k]'hiab516).to_ 0 (p.tasks - 1)), .o] aE fun f45 W46 h45_ st47 hb48 => (aB (cM (h45_.at 59) (fun h49 => ?_) (fun h49 => ?_)))
        ·have h49p := cH (aX h49)
         refine wp_seq (aA (sg (aC (v := I 2) rfl (aB (wr (aO Tryz.results160 rfl ?_))))))
         have hnE : ¬ EdgesIn p.tasks.toNat p.edges := fun hE => by have hea := hE.at (k := k) aD; omega
         exact ⟨(fI (by rw [pf2 hM hnE])), st47.bare⟩
        ·have h49p := inB_iff'.1 (bB h49)
         refine wp_skip (aA (sg (bQ (h45_.at 40) rfl dJ (sg (aG (v := I ((k : Int) + 1)) rfl (aB ?_))))))
         exact ⟨_, p.edges.length - (k + 1), aD, rfl, k + 1, aD, (hEk.step aD aD), rfl, (h45_.put.put.to aE), st47.f1.d1⟩
       ·have h44p := cH (aX h44)
        refine rc st41 16 hA28.put.put.put.put [] [(59, .bool true)] [qb 0 rfl 0, qb 1 rfl 3, qsb p.tasks 1, qc (args := [I (p.edges[k]'hiab516).from_, I 0, I (p.tasks - 1)]) (v := .bool (inB (p.edges[k]'hiab516).from_ 0 (p.tasks - 1))) Tryz.func47 rfl (fun W s b => bW W (p.edges[k]'hiab516).from_ 0 (p.tasks - 1)), qk h44] aE fun f56 W57 h56_ st58 hb59 => (aB (fA (h56_.at 59) rfl (wp_seq (aA (sg (aC (v := I 2) rfl (aB (wr (aO Tryz.results160 rfl ?_)))))))))
        have hnE : ¬ EdgesIn p.tasks.toNat p.edges := fun hE => by have hea := hE.at (k := k) aD; omega
        exact ⟨(fI (by rw [pf2 hM hnE])), st58.bare⟩
      ·refine wp_exit (wp_seq (wp_seq (aA ?_)))
       have hE : EdgesIn p.tasks.toNat p.edges := by rw [show k = p.edges.length by omega, List.take_length] at hEk; exact hEk
       refine rn st27 4 hA28.put [] [(62, v9_0), (63, I (p.edges.length : Int)), (64, I 0)] [qb 0 rfl 4, ql h9_0] aE fun f63 h63_ => (aB (wp_block (aZ (fun (m : Nat) (f : Nat → Value) (W : World) => ∃ (k2 : Nat), k2 ≤ p.edges.length ∧ (p.edges.take k2).Nodup ∧ m = p.edges.length - k2 ∧ Ag [(1, .pointer (some ⟨b1, 0, none⟩)), (62, v9_0), (63, I (p.edges.length : Int)), (64, I (k2 : Int))] f ∧ St w W ([Res.bx b1 [I p.prio, I p.most, I p.wait, I p.tasks, v9_0] 106])) (p.edges.length - 0) ?_ ?_)))
       ·exact ⟨0, aD, List.nodup_nil, rfl, (h63_.to aE), st27⟩
       intro m64 f65 W66 hJ67
       obtain ⟨k2, hk2, hNk, rfl, hA69, st68⟩ := hJ67
       refine wp_seq (aA (sg (bV (hA69.at 64) (hA69.at 63) (aB (wp_seq (aM rfl (fun h72p => ?_) (fun h72p => ?_)))))))
       ·refine wp_skip (wp_seq (wp_block (wp_seq (aA ?_))))
        have hi9adb2 : k2 < p.edges.length := aD
        have hq_ := idx h9_0 (i := k2) hi9adb2
        obtain ⟨b74, o74, cs74, f74, hp74, hr74, hc74, hm74⟩ := hq_
        refine rn st68 3 hA69.put [] [(66, I (k2 : Int)), (68, .agg cs74.toArray)] [qx hp74, qrw hr74 (Shape.len hc74)] aE fun f75 h75_ => (sg (aP lA st68 ?_)); intro b76 W77 hb78 st79
        refine sg (aC (v := I (k2 : Int)) (h75_.at 66) (sg (aL (cs := cs74) fZ hc74 rfl (h75_.at 68) st79 rfl ?_))); intro W83 st84
        refine aB (wp_seq (oZ [Pl.is (.pointer (some ⟨b1, 0 + 4, none⟩)), Pl.is (v9_0) (Sl.yl h9_0), Pl.is (I (k2 : Int)), Pl.ssl (α := Edge) (p.edges.take k2), Pl.is (.agg cs74.toArray), Pl.bool (decide ((p.edges[k2]'hi9adb2) ∈ (p.edges.take k2)))] mix (by rfl) st84 ⟨(fun f W hst hbl hd hf => aH iU ((hf 1 rfl).trans (h75_.at 1)) brq), (fun f W hst hbl hd hf => aU nR rfl (hd 0 69 rfl rfl) (hst.get 1 rfl) (i := 4) rfl rfl brq), (fun f W hst hbl hd hf => aG (v := I (k2 : Int)) ((hf 5 rfl).trans (show _ = I (k2 : Int) from rfl)) brq), (fun f W hst hbl hd hf => lE (h := k2) jA (hd 1 70 rfl rfl) h9_0 (hd 2 71 rfl rfl) rfl aD (fun v_ g_ h_ hm_ => ⟨Below.refl _ _, g_, h_.below hst.below⟩)), (fun f W hst hbl hd hf => bA fZ rfl ((hf 6 rfl).trans (show _ = (.pointer (some ⟨b76, 0, none⟩) : Value) from rfl)) (hst.get 0 rfl) (Shape.len hc74) brq), (fun f W hst hbl hd hf => by obtain ⟨fp85, h85⟩ := hd 3 72 rfl rfl; exact bU Tryz.func215 rfl rfl (hd 4 73 rfl rfl) ((ContE W h85 hc74).mono (by rintro e W2 ⟨rfl, hk⟩; exact ⟨_, rfl, hk.below, rfl⟩))), trivial⟩ ?_))
        intro f86 W87 st88 hb89 hv90 hf91
        refine aM (hv90 5 74 aW rfl) (fun h93p => ?_) (fun h93p => ?_)
        ·refine wp_seq (aA (sg (aC (v := I 3) rfl (aB (wr (aO Tryz.results160 rfl ?_))))))
         have hnN : ¬ p.edges.Nodup := qB (k := k2) aD (by assumption)
         exact ⟨(fI (by rw [pf3 hM hE hnN])), st88.bare⟩
        ·refine wp_skip (aA (sg (bQ ((hf91 64 rfl).trans (h75_.at 64)) rfl dJ (sg (aG (v := I ((k2 : Int) + 1)) rfl (aB ?_))))))
         exact ⟨_, p.edges.length - (k2 + 1), aD, rfl, k2 + 1, aD, (tV hNk aD (by assumption)), rfl, (Ag.cons ((hf91 1 rfl).trans (h75_.at 1)) (Ag.cons ((hf91 62 rfl).trans (h75_.at 62)) (Ag.cons ((hf91 63 rfl).trans (h75_.at 63)) (Ag.cons rfl Ag.nil)))), st88.f1.d1⟩
       ·refine wp_exit (wp_seq (wp_seq (aA ?_)))
        have hN : p.edges.Nodup := by rw [show k2 = p.edges.length by omega, List.take_length] at hNk; exact hNk
        refine sg (aT (cs := [I p.prio, I p.most, I p.wait, I p.tasks, v9_0]) jP rfl (hA69.at 1) (st68.get 0 rfl) rfl rfl (sg (bE Tryz.func216 rfl rfl ((WaitsI W66 (aV hc st68.below) aD aD hE).mono ?_)))); rintro _ W104 ⟨v102, fp102, rfl, hk105⟩; refine ⟨_, rfl, ?_⟩
        have st106 := St.call st68 hk105
        have hwl : (eI (dS p.edges (List.replicate p.tasks.toNat 0) p.tasks.toNat)).length = p.tasks.toNat := by rw [wG, jG, List.length_replicate]
        have hbd := vK (n := p.tasks.toNat) aD hE p.tasks.toNat
        refine sg (fR eQ rfl (aI (st106.get 0 rfl)) (sg (aG (v := I 0) rfl (aB (wp_block (aZ (fun (m : Nat) (f : Nat → Value) (W : World) => ∃ (k3 : Nat), k3 ≤ p.tasks.toNat ∧ (∀ t : Nat, t < k3 → ¬ Rch p.edges (t : Int) (t : Int)) ∧ m = p.tasks.toNat - k3 ∧ Ag [(77, v102), (78, I ((eI (dS p.edges (List.replicate p.tasks.toNat 0) p.tasks.toNat)).length : Int)), (79, I (k3 : Int))] f ∧ St w W ([Res.own (α := List Int) v102 (eI (dS p.edges (List.replicate p.tasks.toNat 0) p.tasks.toNat)) fp102, Res.bx b1 [I p.prio, I p.most, I p.wait, I p.tasks, v9_0] 106])) (p.tasks.toNat - 0) ?_ ?_))))))
        ·exact ⟨0, aD, (fun t ht => absurd ht (Nat.not_lt_zero t)), rfl, (hA69.put.put.put.put.put.to aE), st106⟩
        intro m110 f111 W112 hJ113
        obtain ⟨k3, hk3, hW, rfl, hA115, st114⟩ := hJ113
        refine wp_seq (aA (sg (bV (hA115.at 79) (hA115.at 78) (aB (wp_seq (aM rfl (fun h118p => ?_) (fun h118p => ?_)))))))
        ·refine wp_skip (wp_seq (wp_block (wp_seq (aA ?_))))
         have hie76f8 : k3 < (eI (dS p.edges (List.replicate p.tasks.toNat 0) p.tasks.toNat)).length := aD
         have hq_ := idx (aI (st114.get 0 rfl)) (i := k3) hie76f8
         obtain ⟨b120, o120, cs120, f120, hp120, hr120, hc120, hm120⟩ := hq_
         have hk120 := hc120
         obtain ⟨rfl, rfl, hok120⟩ := hk120
         refine rn st114 5 hA115.put [] [(7, I (k3 : Int)), (8, I ((eI (dS p.edges (List.replicate p.tasks.toNat 0) p.tasks.toNat))[k3]'hie76f8))] [qx hp120, qn hr120 0] aE fun f121 h121_ => (aB (wp_seq (aA (sg (aG (v := I ((eI (dS p.edges (List.replicate p.tasks.toNat 0) p.tasks.toNat))[k3]'hie76f8)) (h121_.at 8) (sg (aG (v := I (k3 : Int)) (h121_.at 7) (sg (stp_shrI rfl rfl (jM hbd _ _).1 aD (sg (stp_andI rfl rfl (shrI_rng (jM hbd _ _)) aD (sg (dI rfl rfl (aB (aM rfl (fun h126p => ?_) (fun h126p => ?_))))))))))))))))
         ·refine wp_seq (aA (sg (aC (v := I 4) rfl (aB (wr (aO Tryz.results160 rfl ?_))))))
          have hC : kF p := ⟨k3, aD, (uY hE aD _).1 (by assumption)⟩
          exact ⟨(fI (by rw [pf4 hM hE hN hC])), st114.bare⟩
         ·refine wp_skip (aA (sg (bQ (h121_.at 79) rfl dJ (sg (aG (v := I ((k3 : Int) + 1)) rfl (aB ?_))))))
          exact ⟨_, p.tasks.toNat - (k3 + 1), aD, rfl, k3 + 1, aD, (fun t ht => by rcases Nat.lt_succ_iff_lt_or_eq.1 ht with h1 | rfl; exact hW t h1; exact fun hr => absurd ((uY hE aD _).2 hr) h126p), rfl, (h121_.put.put.put.put.put.put.put.to aE), st114⟩
        ·refine wp_exit (wp_seq (aA (sg (aC (v := I 0) rfl (aB (wr (aO Tryz.results160 rfl ?_)))))))
         have hC : ¬ kF p := by rintro ⟨t, ht, hr⟩; exact hW t aD hr
         exact ⟨(fI (by rw [pf0 hM hE hN hC])), st114.bare⟩
    ·have h13p := cH (aX h13)
     refine rc st4 28 Ag.nil.put.put.put [] [(36, .bool true)] [qb 0 rfl 3, qc Tryz.func47 rfl (fun W s b => bW W p.tasks 1 12), qk h10, qb 0 rfl 4, ql h9_0, qk h11, qb 0 rfl 0, qc Tryz.func47 rfl (fun W s b => bW W p.prio 0 9), qk h12, qb 0 rfl 1, qc Tryz.func47 rfl (fun W s b => bW W p.most 1 5), qk h13] aE fun f133 W134 h133_ st135 hb136 => (aB (fA (h133_.at 36) rfl (wp_seq (aA (sg (aC (v := I 1) rfl (aB (wr (aO Tryz.results160 rfl ?_)))))))))
     exact ⟨(fI (by rw [pf1 (by unfold cT; omega)])), st135.bare⟩
   ·have h12p := cH (aX h12)
    refine rc st4 28 Ag.nil.put.put.put [] [(36, .bool true)] [qb 0 rfl 3, qc Tryz.func47 rfl (fun W s b => bW W p.tasks 1 12), qk h10, qb 0 rfl 4, ql h9_0, qk h11, qb 0 rfl 0, qc Tryz.func47 rfl (fun W s b => bW W p.prio 0 9), qk h12] aE fun f139 W140 h139_ st141 hb142 => (aB (fA (h139_.at 36) rfl (wp_seq (aA (sg (aC (v := I 1) rfl (aB (wr (aO Tryz.results160 rfl ?_)))))))))
    exact ⟨(fI (by rw [pf1 (by unfold cT; omega)])), st141.bare⟩
  ·have h11 := decide_eq_true h11p
   refine rc st4 28 Ag.nil.put.put.put [] [(36, .bool true)] [qb 0 rfl 3, qc Tryz.func47 rfl (fun W s b => bW W p.tasks 1 12), qk h10, qb 0 rfl 4, ql h9_0, qk h11] aE fun f145 W146 h145_ st147 hb148 => (aB (fA (h145_.at 36) rfl (wp_seq (aA (sg (aC (v := I 1) rfl (aB (wr (aO Tryz.results160 rfl ?_)))))))))
   exact ⟨(fI (by rw [pf1 (by unfold cT; omega)])), st147.bare⟩
 ·have h10p := cH (aX h10)
  refine rc st4 28 Ag.nil.put.put.put [] [(36, .bool true)] [qb 0 rfl 3, qc Tryz.func47 rfl (fun W s b => bW W p.tasks 1 12), qk h10] aE fun f151 W152 h151_ st153 hb154 => (aB (fA (h151_.at 36) rfl (wp_seq (aA (sg (aC (v := I 1) rfl (aB (wr (aO Tryz.results160 rfl ?_)))))))))
  exact ⟨(fI (by rw [pf1 (by unfold cT; omega)])), st153.bare⟩
theorem uU (w : World) {p : Plan} {cs : List Value} {fp : List Nat} (hc : Shape.C w cs p fp) :
  Calls Tryz.prog 155 #[.agg cs.toArray] w fun e w' => e = .returned (I (cX p)) ∧ St w w' [] := by
 refine cO Tryz.func155 rfl Tryz.ntmps155 aW (wp_seq (aA (sg (aJ (cs := cs) rfl (St.start w) ?_)))); intro b1 W2 hb3 st4
 refine sg (aC (v := I 0) rfl (aB (wp_seq (wp_seq (aA (rc st4 2 Ag.nil.put.put.put [] [(8, .bool (pB (cT p)))] [qw 0 rfl (Shape.len hc), qc Tryz.func212 rfl (fun W s b => ManyS W (aV hc s.below))] aE fun f9 W10 h9_ st11 hb12 => (aB (cM (h9_.at 8) (fun h13 => ?_) (fun h13 => ?_)))))))))
 ·refine wp_seq (aA (sg (aC (v := I 1) rfl (aB (wr (aO Tryz.results155 rfl ?_))))))
  exact ⟨(fI (by rw [pf1 (pB_iff.1 (by assumption))])), st11.bare⟩
 ·refine wp_skip (wp_seq (wp_seq (aA ?_)))
  have hM : ¬ cT p := fun hm => by rw [gI hm] at h13; cases h13
  have hMb := pM hM
  refine sg (aC (v := I 0) rfl (aB (wp_block (aZ (fun (m : Nat) (f : Nat → Value) (W : World) => ∃ (k : Nat), k ≤ p.edges.length ∧ EdgesIn p.tasks.toNat (p.edges.take k) ∧ m = p.edges.length - k ∧ Ag [(1, .pointer (some ⟨b1, 0, none⟩)), (3, I (k : Int))] f ∧ St w W ([Res.bx b1 cs 106])) (p.edges.length - 0) ?_ ?_))))
  ·exact ⟨0, aD, EdgesIn.nil, rfl, (h9_.put.to aE), st11⟩
  intro m18 f19 W20 hJ21
  obtain ⟨k, hk, hEk, rfl, hA23, st22⟩ := hJ21
  refine wp_seq (wp_seq (aA ?_))
  have hk25 := hc
  obtain ⟨v25_0, g25_0, rfl, hok25, h25_0, rfl⟩ := hk25
  refine rn st22 5 hA23 [] [(13, .bool (decide ((k : Int) < (p.edges.length : Int))))] [qb 0 rfl 4, ql h25_0, .o] aE fun f26 h26_ => (aB (aM (h26_.at 13) (fun h27p => ?_) (fun h27p => ?_)))
  ·refine wp_skip (wp_seq (wp_block (wp_seq ?_)))
   have hiab516 : k < p.edges.length := aD
   rcases bd (!(inB (p.edges[k]'hiab516).from_ 0 (p.tasks - 1))) with h31 | h31
   ·have h31p := inB_iff'.1 (bB h31)
    have hiab516 : k < p.edges.length := aD
    have hq_ := idx h25_0 (i := k) hiab516
    obtain ⟨b33, o33, cs33, f33, hp33, hr33, hc33, hm33⟩ := hq_
    have hk34 := hc33
    obtain ⟨he34, rfl, hok34⟩ := hk34
    have he34 : _ = [I (p.edges[k]'hiab516).from_, I (p.edges[k]'hiab516).to_] := he34
    subst he34
    refine rd st22 h26_ [] [(39, .bool (!(inB (p.edges[k]'hiab516).to_ 0 (p.tasks - 1))))] [qb 0 rfl 4, qx hp33, qr hr33 0, qb 0 rfl 3, qsb p.tasks 1, qc (args := [I (p.edges[k]'hiab516).from_, I 0, I (p.tasks - 1)]) (v := .bool (inB (p.edges[k]'hiab516).from_ 0 (p.tasks - 1))) Tryz.func43 rfl (fun W s b => cI W (p.edges[k]'hiab516).from_ 0 (p.tasks - 1)), qk h31, qb 0 rfl 4, qx hp33, qr hr33 1, qb 0 rfl 3, qsb p.tasks 1, qc (args := [I (p.edges[k]'hiab516).to_, I 0, I (p.tasks - 1)]) (v := .bool (inB (p.edges[k]'hiab516).to_ 0 (p.tasks - 1))) Tryz.func43 rfl (fun W s b => cI W (p.edges[k]'hiab516).to_ 0 (p.tasks - 1)), .o] aE aE fun f35 W36 h35_ st37 hb38 => (cM (h35_.at 39) (fun h39 => ?_) (fun h39 => ?_))
    ·have h39p := cH (aX h39)
     refine wp_seq (aA (sg (aC (v := I 2) rfl (aB (wr (aO Tryz.results155 rfl ?_))))))
     have hnE : ¬ EdgesIn p.tasks.toNat p.edges := fun hE => by have hea := hE.at (k := k) aD; omega
     exact ⟨(fI (by rw [pf2 hM hnE])), st37.bare⟩
    ·have h39p := inB_iff'.1 (bB h39)
     refine wp_skip (aA (sg (aG (v := I (k : Int)) (h35_.at 3) (sg (bQ rfl rfl dJ (sg (aC (v := I ((k : Int) + 1)) rfl (aB ?_))))))))
     exact ⟨_, p.edges.length - (k + 1), aD, rfl, k + 1, aD, (hEk.step aD aD), rfl, (h35_.put.put.put.to aE), st37⟩
   ·have h31p := cH (aX h31)
    have hiab516 : k < p.edges.length := aD
    have hq_ := idx h25_0 (i := k) hiab516
    obtain ⟨b47, o47, cs47, f47, hp47, hr47, hc47, hm47⟩ := hq_
    have hk48 := hc47
    obtain ⟨he48, rfl, hok48⟩ := hk48
    have he48 : _ = [I (p.edges[k]'hiab516).from_, I (p.edges[k]'hiab516).to_] := he48
    subst he48
    refine rd st22 h26_ [] [(39, .bool true)] [qb 0 rfl 4, qx hp47, qr hr47 0, qb 0 rfl 3, qsb p.tasks 1, qc (args := [I (p.edges[k]'hiab516).from_, I 0, I (p.tasks - 1)]) (v := .bool (inB (p.edges[k]'hiab516).from_ 0 (p.tasks - 1))) Tryz.func43 rfl (fun W s b => cI W (p.edges[k]'hiab516).from_ 0 (p.tasks - 1)), qk h31] aE aE fun f49 W50 h49_ st51 hb52 => (fA (h49_.at 39) rfl (wp_seq (aA (sg (aC (v := I 2) rfl (aB (wr (aO Tryz.results155 rfl ?_))))))))
    have hnE : ¬ EdgesIn p.tasks.toNat p.edges := fun hE => by have hea := hE.at (k := k) aD; omega
    exact ⟨(fI (by rw [pf2 hM hnE])), st51.bare⟩
  ·refine wp_exit (wp_seq (wp_seq (aA ?_)))
   have hE : EdgesIn p.tasks.toNat p.edges := by rw [show k = p.edges.length by omega, List.take_length] at hEk; exact hEk
   refine sg (aC (v := I 0) rfl (aB (wp_block (aZ (fun (m : Nat) (f : Nat → Value) (W : World) => ∃ (k2 : Nat), k2 ≤ p.edges.length ∧ (p.edges.take k2).Nodup ∧ m = p.edges.length - k2 ∧ Ag [(1, .pointer (some ⟨b1, 0, none⟩)), (4, I (k2 : Int))] f ∧ St w W ([Res.bx b1 [I p.prio, I p.most, I p.wait, I p.tasks, v25_0] 106])) (p.edges.length - 0) ?_ ?_))))
   ·exact ⟨0, aD, List.nodup_nil, rfl, (h26_.put.to aE), st22⟩
   intro m57 f58 W59 hJ60
   obtain ⟨k2, hk2, hNk, rfl, hA62, st61⟩ := hJ60
   refine wp_seq (wp_seq (aA (rn st61 5 hA62 [] [(44, .bool (decide ((k2 : Int) < (p.edges.length : Int))))] [qb 0 rfl 4, ql h25_0, .o] aE fun f64 h64_ => (aB (aM (h64_.at 44) (fun h65p => ?_) (fun h65p => ?_))))))
   ·refine wp_skip (wp_seq (wp_block (wp_seq (aA (sg (aC (v := I 0) rfl (aB (wp_block (aZ (fun (m : Nat) (f : Nat → Value) (W : World) => ∃ (j : Nat), j ≤ k2 ∧ (p.edges[k2]'(by omega)) ∉ p.edges.take j ∧ m = k2 - j ∧ Ag [(1, .pointer (some ⟨b1, 0, none⟩)), (4, I (k2 : Int)), (5, I (j : Int))] f ∧ St w W ([Res.bx b1 [I p.prio, I p.most, I p.wait, I p.tasks, v25_0] 106])) (k2 - 0) ?_ ?_)))))))))
    ·exact ⟨0, aD, (by simp), rfl, (h64_.put.to aE), st61⟩
    intro m68 f69 W70 hJ71
    obtain ⟨j, hj, hj2, rfl, hA73, st72⟩ := hJ71
    refine wp_seq (wp_seq (aA (rn st72 3 hA73 [] [(49, .bool (decide ((j : Int) < (k2 : Int))))] [.o] aE fun f75 h75_ => (aB (aM (h75_.at 49) (fun h76p => ?_) (fun h76p => ?_))))))
    ·refine wp_skip (wp_seq (wp_block (wp_seq ?_)))
     have hi9adb2 : k2 < p.edges.length := aD
     have hq_ := idx h25_0 (i := k2) hi9adb2
     obtain ⟨b77, o77, cs77, f77, hp77, hr77, hc77, hm77⟩ := hq_
     have hk78 := hc77
     obtain ⟨he78, rfl, hok78⟩ := hk78
     have he78 : _ = [I (p.edges[k2]'hi9adb2).from_, I (p.edges[k2]'hi9adb2).to_] := he78
     subst he78
     have hif5231 : j < p.edges.length := aD
     have hq_ := idx h25_0 (i := j) hif5231
     obtain ⟨b79, o79, cs79, f79, hp79, hr79, hc79, hm79⟩ := hq_
     have hk80 := hc79
     obtain ⟨he80, rfl, hok80⟩ := hk80
     have he80 : _ = [I (p.edges[j]'hif5231).from_, I (p.edges[j]'hif5231).to_] := he80
     subst he80
     refine oZ [Pl.is (.pointer (some ⟨b1, 0 + 4, none⟩)), Pl.is (v25_0) (Sl.yl h25_0), Pl.is (I (k2 : Int)), Pl.is (.pointer (some ⟨b77, o77, none⟩)), Pl.is (.agg #[I (p.edges[k2]'hi9adb2).from_, I (p.edges[k2]'hi9adb2).to_]), Pl.is (.pointer (some ⟨b1, 0 + 4, none⟩)), Pl.is (v25_0) (Sl.yl h25_0), Pl.is (I (j : Int)), Pl.is (.pointer (some ⟨b79, o79, none⟩)), Pl.is (.agg #[I (p.edges[j]'hif5231).from_, I (p.edges[j]'hif5231).to_]), Pl.bool (eqB (p.edges[k2]'hi9adb2) (p.edges[j]'hif5231))] mix (by rfl) st72 ⟨(fun f W hst hbl hd hf => aH iU ((hf 1 rfl).trans (h75_.at 1)) brq), (fun f W hst hbl hd hf => aU nR rfl (hd 0 52 rfl rfl) (hst.get 0 rfl) (i := 4) rfl rfl brq), (fun f W hst hbl hd hf => aG (v := I (k2 : Int)) ((hf 4 rfl).trans (h75_.at 4)) brq), (fun f W hst hbl hd hf => aN jA (hd 1 53 rfl rfl) hp77 (hd 2 54 rfl rfl) rfl brq), (fun f W hst hbl hd hf => fH (cs := [I (p.edges[k2]'hi9adb2).from_, I (p.edges[k2]'hi9adb2).to_]) fZ rfl (hd 3 55 rfl rfl) hr77 hst.below (i := 0) rfl rfl rfl brq), (fun f W hst hbl hd hf => aH iU ((hf 1 rfl).trans (h75_.at 1)) brq), (fun f W hst hbl hd hf => aU nR rfl (hd 5 57 rfl rfl) (hst.get 0 rfl) (i := 4) rfl rfl brq), (fun f W hst hbl hd hf => aG (v := I (j : Int)) ((hf 5 rfl).trans (h75_.at 5)) brq), (fun f W hst hbl hd hf => aN jA (hd 6 58 rfl rfl) hp79 (hd 7 59 rfl rfl) rfl brq), (fun f W hst hbl hd hf => fH (cs := [I (p.edges[j]'hif5231).from_, I (p.edges[j]'hif5231).to_]) fZ rfl (hd 8 60 rfl rfl) hr79 hst.below (i := 0) rfl rfl rfl brq), (fun f W hst hbl hd hf => xL (zP (p.edges[k2]'hi9adb2) (p.edges[j]'hif5231)) zZ (hd 4 56 rfl rfl) (hd 9 61 rfl rfl) brq), trivial⟩ ?_
     intro f81 W82 st83 hb84 hv85 hf86
     refine cM (hv85 10 62 aW rfl) (fun h88 => ?_) (fun h88 => ?_)
     ·refine wp_seq (aA (sg (aC (v := I 3) rfl (aB (wr (aO Tryz.results155 rfl ?_))))))
      have hnN : ¬ p.edges.Nodup := qB (k := k2) aD (by rw [eqB_iff.1 h88]; exact sI aD aD)
      exact ⟨(fI (by rw [pf3 hM hE hnN])), st83.bare⟩
     ·refine wp_skip (aA (rn st83 3 (Ag.cons (show f81 1 = .pointer (some ⟨b1, 0, none⟩) from ((hf86 1 rfl).trans (h75_.at 1))) (Ag.cons (show f81 4 = I (k2 : Int) from ((hf86 4 rfl).trans (h75_.at 4))) (Ag.cons (show f81 5 = I (j : Int) from ((hf86 5 rfl).trans (h75_.at 5))) Ag.nil))) [5] [(5, I ((j : Int) + 1))] [qad (j : Int) 1] aE fun f92 h92_ => (aB ?_)))
      exact ⟨_, k2 - (j + 1), aD, rfl, j + 1, aD, (not_mem_take_step aD hj2 (fun e => by rw [eE e] at h88; cases h88)), rfl, (h92_.to aE), st83⟩
    ·refine wp_exit (aA (sg (aG (v := I (k2 : Int)) (h75_.at 4) (sg (bQ rfl rfl dJ (sg (aC (v := I ((k2 : Int) + 1)) rfl (aB ?_))))))))
     exact ⟨_, p.edges.length - (k2 + 1), aD, rfl, k2 + 1, aD, (tV hNk aD (by rw [show j = k2 by omega] at hj2; exact hj2)), rfl, (h75_.put.put.put.to aE), st72⟩
   ·refine wp_exit (wp_seq (wp_seq (aA ?_)))
    have hN : p.edges.Nodup := by rw [show k2 = p.edges.length by omega, List.take_length] at hNk; exact hNk
    refine sg (aC (v := I 0) rfl (aB (wp_block (aZ (fun (m : Nat) (f : Nat → Value) (W : World) => ∃ (k3 : Nat), k3 ≤ p.tasks.toNat ∧ (∀ t : Nat, t < k3 → ¬ Rch p.edges (t : Int) (t : Int)) ∧ m = p.tasks.toNat - k3 ∧ Ag [(1, .pointer (some ⟨b1, 0, none⟩)), (6, I (k3 : Int))] f ∧ St w W ([Res.bx b1 [I p.prio, I p.most, I p.wait, I p.tasks, v25_0] 106])) (p.tasks.toNat - 0) ?_ ?_))))
    ·exact ⟨0, aD, (fun t ht => absurd ht (Nat.not_lt_zero t)), rfl, (h64_.put.to aE), st61⟩
    intro m99 f100 W101 hJ102
    obtain ⟨k3, hk3, hW, rfl, hA104, st103⟩ := hJ102
    refine wp_seq (wp_seq (aA (rn st103 4 hA104 [] [(66, .bool (decide ((k3 : Int) < p.tasks)))] [qb 0 rfl 3, .o] aE fun f106 h106_ => (aB (aM (h106_.at 66) (fun h107p => ?_) (fun h107p => ?_))))))
    ·refine wp_skip (wp_seq (wp_block (wp_seq (aA (sg (aT (cs := [I p.prio, I p.most, I p.wait, I p.tasks, v25_0]) jP rfl (h106_.at 1) (st103.get 0 rfl) rfl rfl (sg (aG (v := I (k3 : Int)) (h106_.at 6) (sg (bU Tryz.func213 rfl rfl rfl ((FromS W101 (aV hc st103.below) (k3 : Int) aD aD hE aD).mono ?_))))))))))); rintro _ W112 ⟨v110, fp110, rfl, hk113⟩; refine ⟨_, rfl, ?_⟩
     have st114 := St.call st103 hk113
     refine sg (aG (v := I (k3 : Int)) (h106_.at 6) ?_)
     have hfl := fromOf_len p.edges p.tasks.toNat (k3 : Int)
     have hi60dda : k3 < (mN p.edges p.tasks.toNat (k3 : Int)).length := aD
     have hq_ := idx (aI (st114.get 0 rfl)) (i := k3) hi60dda
     obtain ⟨b118, o118, cs118, f118, hp118, hr118, hc118, hm118⟩ := hq_
     have hk118 := hc118
     obtain ⟨rfl, rfl, hok118⟩ := hk118
     refine sg (aN sl_boolS rfl hp118 rfl rfl (sg (eL ld_bool rfl rfl hr118 (Below.refl _ _) (i := 0) rfl rfl (aB (cM rfl (fun h121 => ?_) (fun h121 => ?_))))))
     ·refine wp_seq (aA (sg (aC (v := I 4) rfl (aB (wr (aO Tryz.results155 rfl ?_))))))
      have hC : kF p := ⟨k3, aD, pB_iff.1 ((vV _).symm.trans h121)⟩
      exact ⟨(fI (by rw [pf4 hM hE hN hC])), st114.bare⟩
     ·refine wp_skip (aA (sg (aG (v := I (k3 : Int)) (h106_.at 6) (sg (bQ rfl rfl dJ (sg (aC (v := I ((k3 : Int) + 1)) rfl (aB ?_))))))))
      exact ⟨_, p.tasks.toNat - (k3 + 1), aD, rfl, k3 + 1, aD, (fun t ht => by rcases Nat.lt_succ_iff_lt_or_eq.1 ht with h1 | rfl; exact hW t h1; exact fun hr => absurd ((vV _).symm.trans h121) (by rw [gI hr]; decide)), rfl, (h106_.put.put.put.put.put.put.put.put.put.to aE), st114.f1.d1⟩
    ·refine wp_exit (wp_seq (aA (sg (aC (v := I 0) rfl (aB (wr (aO Tryz.results155 rfl ?_)))))))
     have hC : ¬ kF p := by rintro ⟨t, ht, hr⟩; exact hW t aD hr
     exact ⟨(fI (by rw [pf0 hM hE hN hC])), st103.bare⟩
end Go.Proofs.YtchnllpegfbleaaGreat
namespace Go.Proofs.YtchnllpegfbleaaGreat
set_option linter.unusedSimpArgs false
set_option linter.unusedVariables false
set_option maxRecDepth 100000
set_option maxHeartbeats 2000000
open Go.RowKit Go.Sort
theorem Elems.ints_inv {W : World} : ∀ {xs : List Int} {cells : List Value} {fp : List Nat}, Elems W cells xs fp → cells = xs.map I ∧ fp = [] ∧ ∀ x ∈ xs, I64 x
 | [], _, _, ⟨h1, h2⟩ => ⟨h1, h2, by simp⟩
 | x :: xs, _, _, ⟨cs, rest, f1, f2, h1, h2, h3, h4⟩ => by
  obtain ⟨rfl, rfl, hx⟩ := h2
  obtain ⟨rfl, rfl, hxs⟩ := Elems.ints_inv h3
  subst h1 h4
  exact ⟨rfl, rfl, fun y hy => by rcases List.mem_cons.1 hy with rfl | hy; exact hx; exact hxs y hy⟩
theorem St.sorted {w0 W : World} {rs : List Res} {b off cap : Nat} {xs ys : List Int} {fp : List Nat} (h : St w0 W (Res.own (.slice (some ⟨b, off, none⟩) xs.length cap) xs fp :: rs)) (hne : xs ≠ []) (hl : ys.length = xs.length) (hm : ∀ y ∈ ys, y ∈ xs) (n : Nat) (os : Array Obj) :
  ∃ fp', St w0 (grow (putRow (Value.int .i64) (Sort.ahead W n) b off ys.toArray) os) (Res.own (.slice (some ⟨b, off, none⟩) xs.length cap) ys fp' :: rs) := by
 have hown := h.get 0 rfl
 have hwr := hown.2
 obtain ⟨ao, cap', e, h1, h2, h3⟩ := aI hown
 injection e with e1 e2 e3
 subst e1 e3
 rcases h3 with ⟨h0, _⟩ | ⟨b', off', f, _, e4, rfl, hb, h3⟩
 ·exact absurd h0 hne
 injection e4 with e4
 injection e4 with e5 e6
 subst e5 e6
 obtain ⟨cells, he, hr⟩ := Elems.of_at off h3
 obtain ⟨rfl, rfl, h64⟩ := he.ints_inv
 obtain ⟨C, e, hC⟩ := hwr b (by simp)
 have hdr : Holds (Value.int .i64) W b off xs.toArray := by
  intro j hj
  have hj' : j < xs.length := by simpa using hj
  refine ⟨?_, by simp [World.frozen?, hC]⟩
  rw [hr j (I xs[j]) (by simp [hj'])]
  simp [hj']
 have hC' : (grow (putRow (Value.int .i64) (Sort.ahead W n) b off ys.toArray) os).heap[b]? = some (.cells (putCells (Value.int .i64) off ys.toArray C) e (0, 0)) := by
  rw [heap_grow_old _ _ (by simpa using hb)]
  simp [putRow, mapBlock, Sort.ahead, Array.getElem?_modify, hC, onCells]
 refine ⟨[b], h.turn (r' := Res.own _ ys [b]) rfl rfl rfl (by simp [grow]) ?_ ?_ (by simp [Res.own]) (fun c hc => .inl hc)⟩
 ·intro k hk hkn
  have hkb : b ≠ k := fun e => hkn (by simp [Res.own, e])
  rw [heap_grow_old _ _ (by simpa using hk)]
  simp [putRow, mapBlock, Sort.ahead, Array.getElem?_modify, hkb]
 ·refine ⟨Sl.v ⟨some ⟨b, off, none⟩, cap, by rw [hl], by rw [hl]; exact h1, h2, .inr ⟨b, off, [], ?_, rfl, rfl, ?_, ?_⟩⟩, ?_⟩
  ·intro e0; rw [e0] at hl; exact hne (List.eq_nil_of_length_eq_zero hl.symm)
  ·exact (Array.getElem?_eq_some_iff.1 hC').1
  ·refine (Elems.ints ys (fun y hy => h64 y (hm y hy))).at off ?_
   intro j u hj
   have hjl : j < ys.length := by have := (List.getElem?_eq_some_iff.1 hj).1; simpa using this
   have hu : u = I ys[j] := by simpa [hjl] using hj.symm
   have hc := cell?_putRow (Value.int .i64) (Sort.ahead W n) b off xs.toArray ys.toArray (holds_ahead _ _ _ _ _ _ hdr) (by simp [hl]) j (by simpa using hjl)
   rw [cell?_grow _ _ _ (by simpa using hb)]
   rw [hc, hu]
   simp [hjl]
  ·intro c hc
   simp at hc; subst hc
   exact ⟨_, _, hC'⟩
end Go.Proofs.YtchnllpegfbleaaGreat
namespace Go.Proofs.YtchnllpegfbleaaGreat
set_option linter.unusedSimpArgs false
set_option linter.unusedVariables false
set_option maxRecDepth 100000
set_option maxHeartbeats 2000000
open Go.RowKit
open Go.Sort
def lays189_ren : Go.Shelf.Ren := ⟨fun | 189 => 226 | 125 => 240 | 257 => 239 | 128 => 253 | 129 => 254 | 294 => 244 | 295 => 245 | 296 => 246 | 297 => 247 | 298 => 248 | 299 => 249 | 216 => 250 | 300 => 251 | 301 => 252 | 328 => 256 | 329 => 257 | 330 => 258 | 331 => 259 | 332 => 260 | 215 => 261 | 343 => 263 | n => n, fun | 28 => 49 | 3 => 3 | 46 => 232 | 0 => 0 | 51 => 245 | 53 => 247 | 4 => 4 | 183 => 237 | 182 => 236 | 131 => 242 | 5 => 5 | 9 => 9 | 218 => 248 | 222 => 252 | 228 => 255 | 229 => 256 | n => n, fun | n => n⟩
theorem zU : Go.Proofs.Lays.n189 Tryz.prog lays189_ren where
 mixed := by kernel_rfl
 f125 := Tryz.func240.trans (congrArg some aE)
 f128 := Tryz.func253.trans (congrArg some aE)
 f129 := Tryz.func254.trans (congrArg some aE)
 f189 := Tryz.func226.trans (congrArg some aE)
 f215 := Tryz.func261.trans (congrArg some aE)
 f216 := Tryz.func250.trans (congrArg some aE)
 f257 := Tryz.func239.trans (congrArg some aE)
 f294 := Tryz.func244.trans (congrArg some aE)
 f295 := Tryz.func245.trans (congrArg some aE)
 f296 := Tryz.func246.trans (congrArg some aE)
 f297 := Tryz.func247.trans (congrArg some aE)
 f298 := Tryz.func248.trans (congrArg some aE)
 f299 := Tryz.func249.trans (congrArg some aE)
 f300 := Tryz.func251.trans (congrArg some aE)
 f301 := Tryz.func252.trans (congrArg some aE)
 f328 := Tryz.func256.trans (congrArg some aE)
 f329 := Tryz.func257.trans (congrArg some aE)
 f330 := Tryz.func258.trans (congrArg some aE)
 f331 := Tryz.func259.trans (congrArg some aE)
 f332 := Tryz.func260.trans (congrArg some aE)
 f343 := Tryz.func263.trans (congrArg some aE)
 t0 := Tryz.underlying0
 a0 := Tryz.isAgg0
 z0 := Tryz.sizeOf0
 v0 := Tryz.zeroValue0
 t3 := Tryz.underlying3
 a3 := Tryz.isAgg3
 z3 := Tryz.sizeOf3
 v3 := Tryz.zeroValue3
 t4 := Tryz.underlying4
 a4 := Tryz.isAgg4
 z4 := Tryz.sizeOf4
 v4 := Tryz.zeroValue4
 t5 := Tryz.underlying5
 a5 := Tryz.isAgg5
 z5 := Tryz.sizeOf5
 v5 := Tryz.zeroValue5
 t9 := Tryz.underlying9
 a9 := Tryz.isAgg9
 z9 := Tryz.sizeOf9
 v9 := Tryz.zeroValue9
 t28 := Tryz.underlying49
 a28 := Tryz.isAgg49
 z28 := Tryz.sizeOf49
 v28 := Tryz.zeroValue49
 t46 := Tryz.underlying232
 a46 := Tryz.isAgg232
 z46 := Tryz.sizeOf232
 v46 := Tryz.zeroValue232
 t51 := Tryz.underlying245
 a51 := Tryz.isAgg245
 z51 := Tryz.sizeOf245
 v51 := Tryz.zeroValue245
 t53 := Tryz.underlying247
 a53 := Tryz.isAgg247
 z53 := Tryz.sizeOf247
 v53 := Tryz.zeroValue247
 t131 := Tryz.underlying242
 a131 := Tryz.isAgg242
 z131 := Tryz.sizeOf242
 v131 := Tryz.zeroValue242
 t182 := Tryz.underlying236
 a182 := Tryz.isAgg236
 z182 := Tryz.sizeOf236
 v182 := Tryz.zeroValue236
 t183 := Tryz.underlying237
 a183 := Tryz.isAgg237
 z183 := Tryz.sizeOf237
 v183 := Tryz.zeroValue237
 t218 := Tryz.underlying248
 a218 := Tryz.isAgg248
 z218 := Tryz.sizeOf248
 v218 := Tryz.zeroValue248
 t222 := Tryz.underlying252
 a222 := Tryz.isAgg252
 z222 := Tryz.sizeOf252
 v222 := Tryz.zeroValue252
 t228 := Tryz.underlying255
 a228 := Tryz.isAgg255
 z228 := Tryz.sizeOf255
 v228 := Tryz.zeroValue255
 t229 := Tryz.underlying256
 a229 := Tryz.isAgg256
 z229 := Tryz.sizeOf256
 v229 := Tryz.zeroValue256


theorem aA5 {w0 W : World} {rs : List Res} {v : Value} {xs : List Int} {fp : List Nat} (h : St w0 W (Res.own v xs fp :: rs)) (hn : xs.length ≤ 1000000) :
  Calls Tryz.prog 226 #[v] W fun e w' => e = .returned (.tuple #[]) ∧ ∃ fp', St w0 w' (Res.own v (cK xs) fp' :: rs) := by
 have hsl := aI (h.get 0 rfl)
 have hwr := (h.get 0 rfl).2
 obtain ⟨ao, cap, rfl, h1, h2, h3⟩ := hsl
 rcases h3 with ⟨rfl, rfl⟩ | ⟨b, off, f, hne, rfl, rfl, hb, h3⟩
 ·refine (Any.slices_Sort_int_none zU ao cap W).mono ?_
  rintro e w' ⟨he, rfl⟩
  refine ⟨he, [], ?_⟩
  rw [show cK [] = [] from List.eq_nil_of_length_eq_zero (oB [])]
  exact h
 ·obtain ⟨cells, he, hr⟩ := Elems.of_at off h3
  obtain ⟨rfl, rfl, h64⟩ := he.ints_inv
  obtain ⟨C, e, hC⟩ := hwr b (by simp)
  have hdr : Holds (Value.int .i64) W b off xs.toArray := by
   intro j hj
   have hj' : j < xs.length := by simpa using hj
   refine ⟨?_, by simp [World.frozen?, hC]⟩
   rw [hr j (I xs[j]) (by simp [hj'])]
   simp [hj']
  refine (Any.slices_Sort_int zU b off cap xs W hdr hb aD).mono ?_
  rintro e' w' ⟨he', n, os, rfl⟩
  obtain ⟨fp', hst⟩ := h.sorted hne (oB xs) (fun y hy => (kS xs).mem_iff.1 hy) n os
  exact ⟨he', fp', hst⟩

end Go.Proofs.YtchnllpegfbleaaGreat
namespace Go.Proofs.YtchnllpegfbleaaGreat
set_option linter.unusedSimpArgs false
set_option linter.unusedVariables false
set_option maxRecDepth 100000
set_option maxHeartbeats 2000000
open Go.RowKit
section
variable {P : Program} {W : World}
end
theorem St.own_nil {α : Type} [Shape α] {w0 W : World} {rs : List Res} (h : St w0 W rs) : St w0 W (Res.own (.slice none 0 0) ([] : List α) [] :: rs) :=
 h.trade (rs1 := []) (rs2 := [Res.own (.slice none 0 0) ([] : List α) []]) (show ([] : List Nat).Nodup from List.nodup_nil) (fun b hb => absurd (show b ∈ ([] : List Nat) from hb) (by simp)) (by intro r hr; simp at hr; subst hr; exact ⟨nil_Sl.v, by simp⟩)
theorem BeforeE (w : World) {p : Plan} {cs : List Value} {fp : List Nat} (hc : Shape.C w cs p fp) (task : Int) (hn : 1 ≤ p.tasks ∧ p.tasks ≤ 12) (hl : p.edges.length ≤ 30) (hE : EdgesIn p.tasks.toNat p.edges) :
  Calls Tryz.prog 214 #[.agg cs.toArray, I task] w fun e w' => ∃ (v : Value) (fp' : List Nat), e = .returned v ∧ St w w' [Res.own v (cK (cV p.edges task)) fp'] := by
 refine bX Tryz.func214 rfl Tryz.ntmps214 aW (wp_seq (aA (sg (aJ (cs := cs) rfl (St.start w) ?_)))); intro b1 W2 hb3 st4
 refine sg (aC (v := .slice none 0 0) rfl (aB (wp_seq (aA (sg (aS (cs := []) (e := 3) dM (bO cY _) st4 ?_)))))); intro b8 W9 hb10 st11
 have st11 := st11.row_empty (α := Int)
 refine sg (aC (v := (.slice (some ⟨b8, 0, none⟩) 0 0)) rfl (aB (wp_seq (wp_seq (aA (sg (aC (v := I 0) rfl (aB (wp_block (aZ (fun (m : Nat) (f : Nat → Value) (W : World) => ∃ (k : Nat) (v17 : Value), k ≤ p.tasks.toNat ∧ m = p.tasks.toNat - k ∧ Ag [(1, I task), (2, .pointer (some ⟨b1, 0, none⟩)), (5, v17), (6, I (k : Int))] f ∧ St w W ([Res.row (α := Int) 3 v17 (fE (cV p.edges task) k) [], Res.bx b1 cs 106])) (p.tasks.toNat - 0) ?_ ?_))))))))))
 ·exact ⟨0, (.slice (some ⟨b8, 0, none⟩) 0 0), (by first | omega | simp), rfl, (Ag.nil.put.put.put.put.put.put.put.to aE), st11⟩
 intro m18 f19 W20 hJ21
 obtain ⟨k, v17, hcd23_0, rfl, hA23, st22⟩ := hJ21
 refine wp_seq (wp_seq (aA ?_))
 have hk25 := hc
 obtain ⟨v25_0, g25_0, rfl, hok25, h25_0, rfl⟩ := hk25
 refine rn st22 4 hA23 [] [(12, .bool (decide ((k : Int) < p.tasks)))] [qb 1 rfl 3, .o] aE fun f26 h26_ => (aB (aM (h26_.at 12) (fun h27p => ?_) (fun h27p => ?_)))
 ·refine wp_skip (wp_seq (wp_block (wp_seq (aA (sg (aC (v := I 0) rfl (aB (wp_block (aZ (fun (m : Nat) (f : Nat → Value) (W : World) => ∃ (i : Nat) (v30 : Value), i ≤ p.edges.length ∧ m = p.edges.length - i ∧ Ag [(1, I task), (2, .pointer (some ⟨b1, 0, none⟩)), (5, v30), (6, I (k : Int)), (7, I (i : Int))] f ∧ St w W ([Res.row (α := Int) 3 v30 (fE (cV p.edges task) k ++ lX (p.edges.take i) task (k : Int)) [], Res.bx b1 [I p.prio, I p.most, I p.wait, I p.tasks, v25_0] 106])) (p.edges.length - 0) ?_ ?_)))))))))
  ·exact ⟨0, v17, (by first | omega | simp), rfl, (h26_.put.to aE), (by have hz := st22; rw [show fE (cV p.edges task) k = fE (cV p.edges task) k ++ lX (p.edges.take 0) task (k : Int) from (List.append_nil _).symm] at hz; exact hz)⟩
  intro m31 f32 W33 hJ34
  obtain ⟨i, v30, hcd36_0, rfl, hA36, st35⟩ := hJ34
  have hol := onesF_len p.edges task (k : Int) i k
  refine wp_seq (wp_seq (aA (rn st35 5 hA36 [] [(19, .bool (decide ((i : Int) < (p.edges.length : Int))))] [qb 1 rfl 4, ql h25_0, .o] aE fun f38 h38_ => (aB (aM (h38_.at 19) (fun h39p => ?_) (fun h39p => ?_))))))
  ·refine wp_skip (wp_seq (wp_block (wp_seq (aA ?_))))
   have hi99fa3 : i < p.edges.length := aD
   have hq_ := idx h25_0 (i := i) hi99fa3
   obtain ⟨b41, o41, cs41, f41, hp41, hr41, hc41, hm41⟩ := hq_
   have hk42 := hc41
   obtain ⟨he42, rfl, hok42⟩ := hk42
   have he42 : _ = [I (p.edges[i]'hi99fa3).from_, I (p.edges[i]'hi99fa3).to_] := he42
   subst he42
   rcases nem ((p.edges[i]'hi99fa3).from_ = (k : Int)) with h43p | h43p
   ·have h43 := decide_eq_false h43p
    refine rn st35 18 h38_ [] [(39, .bool false)] [qb 1 rfl 4, qx hp41, qr hr41 0, qk h43] aE fun f44 h44_ => (aB (gQ (h44_.at 39) rfl (wp_skip (aA (rn st35 3 h44_ [7] [(7, I ((i : Int) + 1))] [qad (i : Int) 1] aE fun f46 h46_ => (aB ?_))))))
    exact ⟨_, p.edges.length - (i + 1), aD, rfl, i + 1, v30, aD, rfl, (h46_.to aE), (by rw [qA aD (by intro hh_; exact absurd hh_.1 h43p)]; exact st35)⟩
   ·have h43 := decide_eq_true h43p
    refine rn st35 18 h38_ [] [(39, .bool (decide ((p.edges[i]'hi99fa3).to_ = task)))] [qb 1 rfl 4, qx hp41, qr hr41 0, qk h43, qb 1 rfl 4, qx hp41, qr hr41 1, .o] aE fun f47 h47_ => (aB (aM (h47_.at 39) (fun h48p => ?_) (fun h48p => ?_)))
    ·refine aA (sg (aG (v := v30) (h47_.at 5) (sg (aG (v := I (k : Int)) (h47_.at 6) (sg (aS (cs := [I (k : Int)]) (e := 3) (cU (v := I (k : Int)) rfl dM) (bJ cY _ _ rfl rfl aW) st35 ?_)))))); intro b51 W52 hb53 st54
     refine sg (cN (ys := [(k : Int)]) cY rfl rfl rfl st54.f1 (Elems.ic (by simp only [I64]; omega) Elems.i0) (by unfold maxLen; omega) aD ?_); intro v57 W58 st59
     refine sg (aC (v := v57) rfl (aB (aA (rn st59 3 h47_.put.put.put.put.put [7] [(7, I ((i : Int) + 1))] [qad (i : Int) 1] aE fun f63 h63_ => (aB ?_)))))
     exact ⟨_, p.edges.length - (i + 1), aD, rfl, i + 1, v57, aD, rfl, (h63_.to aE), (by rw [onesF_step_t aD (by constructor <;> assumption), ← List.append_assoc]; exact st59)⟩
    ·refine wp_skip (aA (rn st35 3 h47_ [7] [(7, I ((i : Int) + 1))] [qad (i : Int) 1] aE fun f65 h65_ => (aB ?_)))
     exact ⟨_, p.edges.length - (i + 1), aD, rfl, i + 1, v30, aD, rfl, (h65_.to aE), (by rw [qA aD (by intro hh_; exact absurd hh_.2 h48p)]; exact st35)⟩
  ·refine wp_exit (aA (rn st35 3 h38_ [6] [(6, I ((k : Int) + 1))] [qad (k : Int) 1] aE fun f67 h67_ => (aB ?_)))
   exact ⟨_, p.tasks.toNat - (k + 1), aD, rfl, k + 1, v30, aD, rfl, (h67_.to aE), (by rw [lL]; rw [show i = p.edges.length by omega, List.take_length] at st35; exact st35)⟩
 ·refine wp_exit (wp_seq (aA (sg (aG (v := v17) (h26_.at 5) (sg (aC (v := v17) rfl (aB (wr (aO Tryz.results214 rfl ?_)))))))))
  obtain rfl : k = p.tasks.toNat := by omega
  rw [wI (vU hE task)] at st22
  have hq_ := st22.shut
  obtain ⟨fpz, stz⟩ := hq_
  exact ⟨_, fpz, rfl, stz.only 0 rfl⟩
theorem BehindE (w : World) {p : Plan} {cs : List Value} {fp : List Nat} (hc : Shape.C w cs p fp) (task : Int) (hn : 1 ≤ p.tasks ∧ p.tasks ≤ 12) (hl : p.edges.length ≤ 30) (hE : EdgesIn p.tasks.toNat p.edges) :
  Calls Tryz.prog 185 #[.agg cs.toArray, I task] w fun e w' => ∃ (v : Value) (fp' : List Nat), e = .returned v ∧ St w w' [Res.own v (cK (tos p.edges task)) fp'] := by
 refine bX Tryz.func185 rfl Tryz.ntmps185 aW (wp_seq (aA (sg (aJ (cs := cs) rfl (St.start w) ?_)))); intro b1 W2 hb3 st4
 refine sg (aC (v := .slice none 0 0) rfl (aB (wp_seq (aA (sg (aS (cs := []) (e := 3) dM (bO cY _) st4 ?_)))))); intro b8 W9 hb10 st11
 have st11 := st11.row_empty (α := Int)
 refine sg (aC (v := (.slice (some ⟨b8, 0, none⟩) 0 0)) rfl (aB (wp_seq (wp_seq (aA (sg (aC (v := I 0) rfl (aB (wp_block (aZ (fun (m : Nat) (f : Nat → Value) (W : World) => ∃ (k : Nat) (v17 : Value), k ≤ p.tasks.toNat ∧ m = p.tasks.toNat - k ∧ Ag [(1, I task), (2, .pointer (some ⟨b1, 0, none⟩)), (5, v17), (6, I (k : Int))] f ∧ St w W ([Res.row (α := Int) 3 v17 (fE (tos p.edges task) k) [], Res.bx b1 cs 106])) (p.tasks.toNat - 0) ?_ ?_))))))))))
 ·exact ⟨0, (.slice (some ⟨b8, 0, none⟩) 0 0), (by first | omega | simp), rfl, (Ag.nil.put.put.put.put.put.put.put.to aE), st11⟩
 intro m18 f19 W20 hJ21
 obtain ⟨k, v17, hcd23_0, rfl, hA23, st22⟩ := hJ21
 refine wp_seq (wp_seq (aA ?_))
 have hk25 := hc
 obtain ⟨v25_0, g25_0, rfl, hok25, h25_0, rfl⟩ := hk25
 refine rn st22 4 hA23 [] [(12, .bool (decide ((k : Int) < p.tasks)))] [qb 1 rfl 3, .o] aE fun f26 h26_ => (aB (aM (h26_.at 12) (fun h27p => ?_) (fun h27p => ?_)))
 ·refine wp_skip (wp_seq (wp_block (wp_seq (aA (sg (aC (v := I 0) rfl (aB (wp_block (aZ (fun (m : Nat) (f : Nat → Value) (W : World) => ∃ (i : Nat) (v30 : Value), i ≤ p.edges.length ∧ m = p.edges.length - i ∧ Ag [(1, I task), (2, .pointer (some ⟨b1, 0, none⟩)), (5, v30), (6, I (k : Int)), (7, I (i : Int))] f ∧ St w W ([Res.row (α := Int) 3 v30 (fE (tos p.edges task) k ++ lW (p.edges.take i) task (k : Int)) [], Res.bx b1 [I p.prio, I p.most, I p.wait, I p.tasks, v25_0] 106])) (p.edges.length - 0) ?_ ?_)))))))))
  ·exact ⟨0, v17, (by first | omega | simp), rfl, (h26_.put.to aE), (by have hz := st22; rw [show fE (tos p.edges task) k = fE (tos p.edges task) k ++ lW (p.edges.take 0) task (k : Int) from (List.append_nil _).symm] at hz; exact hz)⟩
  intro m31 f32 W33 hJ34
  obtain ⟨i, v30, hcd36_0, rfl, hA36, st35⟩ := hJ34
  have hol := onesT_len p.edges task (k : Int) i k
  refine wp_seq (wp_seq (aA (rn st35 5 hA36 [] [(19, .bool (decide ((i : Int) < (p.edges.length : Int))))] [qb 1 rfl 4, ql h25_0, .o] aE fun f38 h38_ => (aB (aM (h38_.at 19) (fun h39p => ?_) (fun h39p => ?_))))))
  ·refine wp_skip (wp_seq (wp_block (wp_seq (aA ?_))))
   have hi99fa3 : i < p.edges.length := aD
   have hq_ := idx h25_0 (i := i) hi99fa3
   obtain ⟨b41, o41, cs41, f41, hp41, hr41, hc41, hm41⟩ := hq_
   have hk42 := hc41
   obtain ⟨he42, rfl, hok42⟩ := hk42
   have he42 : _ = [I (p.edges[i]'hi99fa3).from_, I (p.edges[i]'hi99fa3).to_] := he42
   subst he42
   rcases nem ((p.edges[i]'hi99fa3).from_ = task) with h43p | h43p
   ·have h43 := decide_eq_false h43p
    refine rn st35 18 h38_ [] [(39, .bool false)] [qb 1 rfl 4, qx hp41, qr hr41 0, qk h43] aE fun f44 h44_ => (aB (gQ (h44_.at 39) rfl (wp_skip (aA (rn st35 3 h44_ [7] [(7, I ((i : Int) + 1))] [qad (i : Int) 1] aE fun f46 h46_ => (aB ?_))))))
    exact ⟨_, p.edges.length - (i + 1), aD, rfl, i + 1, v30, aD, rfl, (h46_.to aE), (by rw [pZ aD (by intro hh_; exact absurd hh_.1 h43p)]; exact st35)⟩
   ·have h43 := decide_eq_true h43p
    refine rn st35 18 h38_ [] [(39, .bool (decide ((p.edges[i]'hi99fa3).to_ = (k : Int))))] [qb 1 rfl 4, qx hp41, qr hr41 0, qk h43, qb 1 rfl 4, qx hp41, qr hr41 1, .o] aE fun f47 h47_ => (aB (aM (h47_.at 39) (fun h48p => ?_) (fun h48p => ?_)))
    ·refine aA (sg (aG (v := v30) (h47_.at 5) (sg (aG (v := I (k : Int)) (h47_.at 6) (sg (aS (cs := [I (k : Int)]) (e := 3) (cU (v := I (k : Int)) rfl dM) (bJ cY _ _ rfl rfl aW) st35 ?_)))))); intro b51 W52 hb53 st54
     refine sg (cN (ys := [(k : Int)]) cY rfl rfl rfl st54.f1 (Elems.ic (by simp only [I64]; omega) Elems.i0) (by unfold maxLen; omega) aD ?_); intro v57 W58 st59
     refine sg (aC (v := v57) rfl (aB (aA (rn st59 3 h47_.put.put.put.put.put [7] [(7, I ((i : Int) + 1))] [qad (i : Int) 1] aE fun f63 h63_ => (aB ?_)))))
     exact ⟨_, p.edges.length - (i + 1), aD, rfl, i + 1, v57, aD, rfl, (h63_.to aE), (by rw [onesT_step_t aD (by constructor <;> assumption), ← List.append_assoc]; exact st59)⟩
    ·refine wp_skip (aA (rn st35 3 h47_ [7] [(7, I ((i : Int) + 1))] [qad (i : Int) 1] aE fun f65 h65_ => (aB ?_)))
     exact ⟨_, p.edges.length - (i + 1), aD, rfl, i + 1, v30, aD, rfl, (h65_.to aE), (by rw [pZ aD (by intro hh_; exact absurd hh_.2 h48p)]; exact st35)⟩
  ·refine wp_exit (aA (rn st35 3 h38_ [6] [(6, I ((k : Int) + 1))] [qad (k : Int) 1] aE fun f67 h67_ => (aB ?_)))
   exact ⟨_, p.tasks.toNat - (k + 1), aD, rfl, k + 1, v30, aD, rfl, (h67_.to aE), (by rw [lL]; rw [show i = p.edges.length by omega, List.take_length] at st35; exact st35)⟩
 ·refine wp_exit (wp_seq (aA (sg (aG (v := v17) (h26_.at 5) (sg (aC (v := v17) rfl (aB (wr (aO Tryz.results185 rfl ?_)))))))))
  obtain rfl : k = p.tasks.toNat := by omega
  rw [wI (zH hE task)] at st22
  have hq_ := st22.shut
  obtain ⟨fpz, stz⟩ := hq_
  exact ⟨_, fpz, rfl, stz.only 0 rfl⟩
theorem BeforeOfI (w : World) {p : Plan} {cs : List Value} {fp : List Nat} (hc : Shape.C w cs p fp) (task : Int) :
  Calls Tryz.prog 231 #[.agg cs.toArray, I task] w fun e w' => ∃ (v : Value) (fp' : List Nat), e = .returned v ∧ St w w' [Res.own v (cE p task) fp'] := by
 refine bX Tryz.func231 rfl Tryz.ntmps231 aW (wp_seq (aA (sg (aJ (cs := cs) rfl (St.start w) ?_)))); intro b1 W2 hb3 st4
 refine sg (aC (v := .slice none 0 0) rfl (aB (wp_seq (wp_seq (aA (rc st4 3 Ag.nil.put.put.put.put [] [(10, .bool (!decide ((cX p) = 0)))] [qw 0 rfl (Shape.len hc), qc Tryz.func160 rfl (fun W s b => mU W (aV hc s.below)), .o] aE fun f9 W10 h9_ st11 hb12 => (aB (dF (h9_.at 10) (fun h13p => ?_) (fun h13p => ?_)))))))))
 ·refine wp_seq (aA (sg (aC (v := .slice none 0 0) rfl (aB (wr (aO Tryz.results231 rfl ?_))))))
  have hb : cE p task = [] := by unfold cE; rw [if_neg (by assumption)]
  rw [hb]
  exact ⟨_, [], rfl, (St.own_nil (α := Int) st11).only 0 rfl⟩
 ·refine wp_skip (wp_seq (aA ?_))
  have hF0 : cX p = 0 := by omega
  have hq_ := lU hF0
  obtain ⟨hM, hE, _, _⟩ := hq_
  have hMb := pM hM
  refine sg (aC (v := .slice none 0 0) rfl (aB (wp_seq (wp_seq (aA ?_)))))
  have hk19 := hc
  obtain ⟨v19_0, g19_0, rfl, hok19, h19_0, rfl⟩ := hk19
  refine rn st11 4 h9_.put [] [(12, v19_0), (13, I (p.edges.length : Int)), (14, I 0)] [qb 0 rfl 4, ql h19_0] aE fun f20 h20_ => (aB (wp_block ?_))
  have st22 := st11.row_nil (α := Int) 3
  refine aZ (fun (m : Nat) (f : Nat → Value) (W : World) => ∃ (k : Nat) (v21 : Value), k ≤ p.edges.length ∧ m = p.edges.length - k ∧ Ag [(1, I task), (5, v21), (12, v19_0), (13, I (p.edges.length : Int)), (14, I (k : Int))] f ∧ St w W ([Res.row (α := Int) 3 v21 (cV (p.edges.take k) task) [], Res.bx b1 [I p.prio, I p.most, I p.wait, I p.tasks, v19_0] 106])) (p.edges.length - 0) ?_ ?_
  ·exact ⟨0, (.slice none 0 0), (by first | omega | simp), rfl, (h20_.to aE), st22⟩
  intro m24 f25 W26 hJ27
  obtain ⟨k, v21, hcd29_0, rfl, hA29, st28⟩ := hJ27
  have hfl := rM (p.edges.take k) task
  have htl := List.length_take_le k p.edges
  refine wp_seq (aA (sg (bV (hA29.at 14) (hA29.at 13) (aB (wp_seq (aM rfl (fun h32p => ?_) (fun h32p => ?_)))))))
  ·refine wp_skip (wp_seq (wp_block (wp_seq (aA ?_))))
   have hiab516 : k < p.edges.length := aD
   have hq_ := idx h19_0 (i := k) hiab516
   obtain ⟨b33, o33, cs33, f33, hp33, hr33, hc33, hm33⟩ := hq_
   refine sg (aN jA (hA29.at 12) hp33 (hA29.at 14) rfl (sg (cW fZ rfl rfl hr33 st28.below (Shape.len hc33) (sg (aP lA st28 ?_))))); intro b36 W37 hb38 st39
   refine sg (aL (cs := cs33) fZ hc33 rfl rfl st39 rfl ?_); intro W41 st42
   refine aB (wp_seq (aA (sg (aH rQ rfl ?_))))
   have hea := hE.at (k := k) aD
   have hk45 := hc33
   obtain ⟨he45, rfl, hok45⟩ := hk45
   have he45 : _ = [I (p.edges[k]'hiab516).from_, I (p.edges[k]'hiab516).to_] := he45
   subst he45
   refine rn st42 3 hA29.put.put.put.put.put [] [(21, .bool (decide ((p.edges[k]'hiab516).to_ = task)))] [qb 0 rfl 1, .o] aE fun f47 h47_ => (aB (aM (h47_.at 21) (fun h48p => ?_) (fun h48p => ?_)))
   ·refine aA (rn st42 3 h47_ [] [(22, v21), (24, I (p.edges[k]'hiab516).from_)] [qb 0 rfl 0] aE fun f50 h50_ => (sg (aS (cs := [I (p.edges[k]'hiab516).from_]) (e := 3) (cU (v := I (p.edges[k]'hiab516).from_) (h50_.at 24) dM) (bJ cY _ _ rfl rfl aW) st42 ?_))); intro b51 W52 hb53 st54
    refine sg (cN (ys := [(p.edges[k]'hiab516).from_]) cY (h50_.at 22) rfl rfl st54.f2 (Elems.ic (by have := hc; simp only [I64]; omega) Elems.i0) (by unfold maxLen; omega) aD ?_); intro v57 W58 st59
    refine sg (aC (v := v57) rfl (aB (aA (sg (bQ (h50_.at 14) rfl dJ (sg (aG (v := I ((k : Int) + 1)) rfl (aB ?_))))))))
    exact ⟨_, p.edges.length - (k + 1), aD, rfl, k + 1, v57, aD, rfl, (h50_.put.put.put.put.put.to aE), (by rw [mM aD h48p]; exact st59.f2.f1.d2)⟩
   ·refine wp_skip (aA (sg (bQ (h47_.at 14) rfl dJ (sg (aG (v := I ((k : Int) + 1)) rfl (aB ?_))))))
    exact ⟨_, p.edges.length - (k + 1), aD, rfl, k + 1, v21, aD, rfl, (h47_.put.put.to aE), (by rw [qH aD h48p]; exact st42.f2.f2.d2)⟩
  ·refine wp_exit (wp_seq (aA (sg (aG (v := v21) (hA29.at 5) ?_))))
   have hq_ := st28.shut
   obtain ⟨fp75, st76⟩ := hq_
   refine sg (bE Tryz.func226 rfl rfl ((aA5 st76 (by rw [List.take_of_length_le aD] at hfl; rw [List.take_of_length_le aD]; omega)).mono ?_)); rintro _ W74 ⟨rfl, fp78, st77⟩; refine ⟨_, rfl, ?_⟩
   refine aB (wp_seq (aA (sg (aG (v := v21) (hA29.at 5) (sg (aC (v := v21) rfl (aB (wr (aO Tryz.results231 rfl ?_)))))))))
   obtain rfl : k = p.edges.length := by omega
   rw [List.take_length] at st77
   have hb : cE p task = cK (cV p.edges task) := by unfold cE; rw [if_pos aD]
   rw [hb]
   exact ⟨_, _, rfl, st77.only 0 rfl⟩
theorem BehindOfI (w : World) {p : Plan} {cs : List Value} {fp : List Nat} (hc : Shape.C w cs p fp) (task : Int) :
  Calls Tryz.prog 188 #[.agg cs.toArray, I task] w fun e w' => ∃ (v : Value) (fp' : List Nat), e = .returned v ∧ St w w' [Res.own v (cQ p task) fp'] := by
 refine bX Tryz.func188 rfl Tryz.ntmps188 aW (wp_seq (aA (sg (aJ (cs := cs) rfl (St.start w) ?_)))); intro b1 W2 hb3 st4
 refine sg (aC (v := .slice none 0 0) rfl (aB (wp_seq (wp_seq (aA (rc st4 3 Ag.nil.put.put.put.put [] [(10, .bool (!decide ((cX p) = 0)))] [qw 0 rfl (Shape.len hc), qc Tryz.func160 rfl (fun W s b => mU W (aV hc s.below)), .o] aE fun f9 W10 h9_ st11 hb12 => (aB (dF (h9_.at 10) (fun h13p => ?_) (fun h13p => ?_)))))))))
 ·refine wp_seq (aA (sg (aC (v := .slice none 0 0) rfl (aB (wr (aO Tryz.results188 rfl ?_))))))
  have hb : cQ p task = [] := by unfold cQ; rw [if_neg (by assumption)]
  rw [hb]
  exact ⟨_, [], rfl, (St.own_nil (α := Int) st11).only 0 rfl⟩
 ·refine wp_skip (wp_seq (aA ?_))
  have hF0 : cX p = 0 := by omega
  have hq_ := lU hF0
  obtain ⟨hM, hE, _, _⟩ := hq_
  have hMb := pM hM
  refine sg (aC (v := .slice none 0 0) rfl (aB (wp_seq (wp_seq (aA ?_)))))
  have hk19 := hc
  obtain ⟨v19_0, g19_0, rfl, hok19, h19_0, rfl⟩ := hk19
  refine rn st11 4 h9_.put [] [(12, v19_0), (13, I (p.edges.length : Int)), (14, I 0)] [qb 0 rfl 4, ql h19_0] aE fun f20 h20_ => (aB (wp_block ?_))
  have st22 := st11.row_nil (α := Int) 3
  refine aZ (fun (m : Nat) (f : Nat → Value) (W : World) => ∃ (k : Nat) (v21 : Value), k ≤ p.edges.length ∧ m = p.edges.length - k ∧ Ag [(1, I task), (5, v21), (12, v19_0), (13, I (p.edges.length : Int)), (14, I (k : Int))] f ∧ St w W ([Res.row (α := Int) 3 v21 (tos (p.edges.take k) task) [], Res.bx b1 [I p.prio, I p.most, I p.wait, I p.tasks, v19_0] 106])) (p.edges.length - 0) ?_ ?_
  ·exact ⟨0, (.slice none 0 0), (by first | omega | simp), rfl, (h20_.to aE), st22⟩
  intro m24 f25 W26 hJ27
  obtain ⟨k, v21, hcd29_0, rfl, hA29, st28⟩ := hJ27
  have hfl := wQ (p.edges.take k) task
  have htl := List.length_take_le k p.edges
  refine wp_seq (aA (sg (bV (hA29.at 14) (hA29.at 13) (aB (wp_seq (aM rfl (fun h32p => ?_) (fun h32p => ?_)))))))
  ·refine wp_skip (wp_seq (wp_block (wp_seq (aA ?_))))
   have hiab516 : k < p.edges.length := aD
   have hq_ := idx h19_0 (i := k) hiab516
   obtain ⟨b33, o33, cs33, f33, hp33, hr33, hc33, hm33⟩ := hq_
   refine sg (aN jA (hA29.at 12) hp33 (hA29.at 14) rfl (sg (cW fZ rfl rfl hr33 st28.below (Shape.len hc33) (sg (aP lA st28 ?_))))); intro b36 W37 hb38 st39
   refine sg (aL (cs := cs33) fZ hc33 rfl rfl st39 rfl ?_); intro W41 st42
   refine aB (wp_seq (aA (sg (aH wC rfl ?_))))
   have hea := hE.at (k := k) aD
   have hk45 := hc33
   obtain ⟨he45, rfl, hok45⟩ := hk45
   have he45 : _ = [I (p.edges[k]'hiab516).from_, I (p.edges[k]'hiab516).to_] := he45
   subst he45
   refine rn st42 3 hA29.put.put.put.put.put [] [(21, .bool (decide ((p.edges[k]'hiab516).from_ = task)))] [qb 0 rfl 0, .o] aE fun f47 h47_ => (aB (aM (h47_.at 21) (fun h48p => ?_) (fun h48p => ?_)))
   ·refine aA (rn st42 3 h47_ [] [(22, v21), (24, I (p.edges[k]'hiab516).to_)] [qb 0 rfl 1] aE fun f50 h50_ => (sg (aS (cs := [I (p.edges[k]'hiab516).to_]) (e := 3) (cU (v := I (p.edges[k]'hiab516).to_) (h50_.at 24) dM) (bJ cY _ _ rfl rfl aW) st42 ?_))); intro b51 W52 hb53 st54
    refine sg (cN (ys := [(p.edges[k]'hiab516).to_]) cY (h50_.at 22) rfl rfl st54.f2 (Elems.ic (by have := hc; simp only [I64]; omega) Elems.i0) (by unfold maxLen; omega) aD ?_); intro v57 W58 st59
    refine sg (aC (v := v57) rfl (aB (aA (sg (bQ (h50_.at 14) rfl dJ (sg (aG (v := I ((k : Int) + 1)) rfl (aB ?_))))))))
    exact ⟨_, p.edges.length - (k + 1), aD, rfl, k + 1, v57, aD, rfl, (h50_.put.put.put.put.put.to aE), (by rw [oX aD h48p]; exact st59.f2.f1.d2)⟩
   ·refine wp_skip (aA (sg (bQ (h47_.at 14) rfl dJ (sg (aG (v := I ((k : Int) + 1)) rfl (aB ?_))))))
    exact ⟨_, p.edges.length - (k + 1), aD, rfl, k + 1, v21, aD, rfl, (h47_.put.put.to aE), (by rw [sV aD h48p]; exact st42.f2.f2.d2)⟩
  ·refine wp_exit (wp_seq (aA (sg (aG (v := v21) (hA29.at 5) ?_))))
   have hq_ := st28.shut
   obtain ⟨fp75, st76⟩ := hq_
   refine sg (bE Tryz.func226 rfl rfl ((aA5 st76 (by rw [List.take_of_length_le aD] at hfl; rw [List.take_of_length_le aD]; omega)).mono ?_)); rintro _ W74 ⟨rfl, fp78, st77⟩; refine ⟨_, rfl, ?_⟩
   refine aB (wp_seq (aA (sg (aG (v := v21) (hA29.at 5) (sg (aC (v := v21) rfl (aB (wr (aO Tryz.results188 rfl ?_)))))))))
   obtain rfl : k = p.edges.length := by omega
   rw [List.take_length] at st77
   have hb : cQ p task = cK (tos p.edges task) := by unfold cQ; rw [if_pos aD]
   rw [hb]
   exact ⟨_, _, rfl, st77.only 0 rfl⟩
def cJ (ts : List Task) (s : Int) : Int := ((ts.filter (fun t => decide (t.state = s))).length : Int)
def eP (ts : List Task) : List Int := [cJ ts 0, cJ ts 1, cJ ts 2, cJ ts 3, cJ ts 4, cJ ts 5, cJ ts 6]
theorem dW (ts : List Task) (s : Int) : 0 ≤ cJ ts s := by unfold cJ; omega
theorem mP (ts : List Task) (s : Int) : cJ ts s ≤ ts.length := by
 unfold cJ
 have := List.length_filter_le (fun t : Task => decide (t.state = s)) ts
 omega
theorem wE {ts : List Task} {k : Nat} (hk : k < ts.length) (s : Int) : cJ (ts.take (k + 1)) s = cJ (ts.take k) s + (if ts[k].state = s then 1 else 0) := by
 unfold cJ
 rw [List.take_succ_eq_append_getElem hk, List.filter_append]
 by_cases h : ts[k].state = s <;> simp [h]
theorem qP (ts : List Task) : (eP ts).length = 7 := rfl
theorem cnts_nil : eP [] = [0, 0, 0, 0, 0, 0, 0] := rfl
theorem cnts_set {ts : List Task} {k : Nat} (hk : k < ts.length) (h : 1 ≤ ts[k].state ∧ ts[k].state ≤ 6) (hl : ts[k].state.toNat < (eP (ts.take k)).length) :
  (eP (ts.take k)).set ts[k].state.toNat ((eP (ts.take k))[ts[k].state.toNat]'hl + 1) = eP (ts.take (k + 1)) := by
 have hc : ts[k].state = 1 ∨ ts[k].state = 2 ∨ ts[k].state = 3 ∨ ts[k].state = 4 ∨ ts[k].state = 5 ∨ ts[k].state = 6 := by omega
 have e : eP (ts.take (k + 1)) = [cJ (ts.take k) 0 + (if ts[k].state = 0 then 1 else 0), cJ (ts.take k) 1 + (if ts[k].state = 1 then 1 else 0), cJ (ts.take k) 2 + (if ts[k].state = 2 then 1 else 0), cJ (ts.take k) 3 + (if ts[k].state = 3 then 1 else 0), cJ (ts.take k) 4 + (if ts[k].state = 4 then 1 else 0), cJ (ts.take k) 5 + (if ts[k].state = 5 then 1 else 0), cJ (ts.take k) 6 + (if ts[k].state = 6 then 1 else 0)] := by
  unfold eP
  simp only [wE hk]
 rw [e]
 generalize ts[k].state = s at hc hl ⊢
 rcases hc with rfl | rfl | rfl | rfl | rfl | rfl <;> simp [eP]
theorem cnts_rng (ts : List Task) (i : Nat) (h : i < (eP ts).length) : 0 ≤ (eP ts)[i] ∧ (eP ts)[i] ≤ ts.length := by
 have hm : (eP ts)[i] ∈ eP ts := List.getElem_mem h
 generalize (eP ts)[i] = y at hm
 simp only [eP, List.mem_cons, List.not_mem_nil, or_false] at hm
 rcases hm with rfl | rfl | rfl | rfl | rfl | rfl | rfl <;> exact ⟨dW _ _, mP _ _⟩
theorem aA2 : ∀ {ts : List Task}, (∀ t ∈ ts, 1 ≤ t.state ∧ t.state ≤ 6) → cJ ts 1 + cJ ts 2 + cJ ts 3 + cJ ts 4 + cJ ts 5 + cJ ts 6 = ts.length
 | [], _ => rfl
 | t :: ts, h => by
  have ih := aA2 (ts := ts) (fun x hx => h x (by simp [hx]))
  have ht := h t (by simp)
  have hs : ∀ s : Int, cJ (t :: ts) s = cJ ts s + (if t.state = s then 1 else 0) := by
   intro s
   unfold cJ
   by_cases hh : t.state = s <;> simp [hh]
  simp only [hs, List.length_cons]
  have hc : t.state = 1 ∨ t.state = 2 ∨ t.state = 3 ∨ t.state = 4 ∨ t.state = 5 ∨ t.state = 6 := by omega
  rcases hc with e | e | e | e | e | e <;> simp [e] <;> omega
theorem rW (ts : List Task) (s : Int) : ∀ k, k ≤ ts.length → ((gV ts s k).length : Int) = cJ (ts.take k) s
 | 0, _ => rfl
 | k + 1, h => by
  have ih := rW ts s k aD
  have hk : k < ts.length := by omega
  rw [wE hk]
  by_cases hh : ts[k].state = s
  ·rw [nX hk hh, List.length_append, if_pos hh, List.length_singleton]; omega
  ·rw [qZ hk hh, if_neg hh]; omega
theorem jU (ts : List Task) (s : Int) : ((bF ts s).length : Int) = cJ ts s := by
 have := rW ts s ts.length (Nat.le_refl _)
 rwa [List.take_length] at this
def dN (ts : List Task) : Int :=
 if cJ ts 4 = ts.length then 2 else if cJ ts 5 = 1 ∧ cJ ts 1 + cJ ts 2 + cJ ts 3 = 0 then 3 else if cJ ts 5 = 0 ∧ 0 < cJ ts 6 ∧ cJ ts 1 + cJ ts 2 + cJ ts 3 = 0 then 4 else if cJ ts 5 = 0 ∧ cJ ts 6 = 0 then 1 else 0
def mL (r : Run) (x : Int) : Bool := match r.tasks[x.toNat]? with | some t => decide (t.state = 4) | none => false
def dU (r : Run) (l : List Int) : Int := ((l.filter (fun b => !mL r b)).length : Int)
noncomputable def iM (r : Run) (task : Int) : Int := dU r (cE r.plan task)
theorem lG {r : Run} {l : List Int} {k : Nat} (hk : k < l.length) : dU r (l.take (k + 1)) = dU r (l.take k) + (if mL r l[k] then 0 else 1) := by
 unfold dU
 rw [List.take_succ_eq_append_getElem hk, List.filter_append]
 cases h : mL r l[k] <;> simp [h]
theorem pF (r : Run) (l : List Int) : 0 ≤ dU r l ∧ dU r l ≤ l.length := by
 unfold dU
 have := List.length_filter_le (fun b => !mL r b) l
 omega
def bN (r : Run) (need : Int) (t : Task) : Prop :=
 (1 ≤ t.state ∧ t.state ≤ 6) ∧ t.need = need ∧ (0 ≤ t.try_ ∧ t.try_ ≤ r.plan.most) ∧ (t.state = 3 → 1 ≤ t.until_ ∧ t.until_ ≤ 1000000000) ∧ (¬ t.state = 3 → t.until_ = 0) ∧
 (t.state = 1 → 0 < need) ∧ (t.state = 2 → need = 0 ∧ t.try_ < r.plan.most) ∧ ((t.state = 3 ∨ t.state = 4 ∨ t.state = 5) → need = 0 ∧ 1 ≤ t.try_)
def lD (r : Run) (k : Nat) : Prop := ∀ h : k < r.tasks.length, bN r (iM r (k : Int)) r.tasks[k]
noncomputable def dK (r : Run) : Bool := pB ((1 ≤ r.id ∧ r.id ≤ 9999) ∧ cX r.plan = 0 ∧ (r.tasks.length : Int) = r.plan.tasks ∧ (∀ k, k < r.tasks.length → lD r k) ∧ r.state = dN r.tasks ∧ ¬ r.state = 0)
theorem oI {r : Run} {x : Int} (h : x.toNat < r.tasks.length) : mL r x = decide (r.tasks[x.toNat].state = 4) := by
 unfold mL; rw [List.getElem?_eq_getElem h]
theorem yW {p : Prop} (h : pB p = false) : ¬ p := fun hp => by rw [gI hp] at h; cases h
theorem oQ (ts : List Task) : (cJ ts 4 = ts.length → dN ts = 2) ∧ (¬ cJ ts 4 = ts.length → (cJ ts 5 = 1 ∧ cJ ts 1 + cJ ts 2 + cJ ts 3 = 0) → dN ts = 3) ∧
  (¬ cJ ts 4 = ts.length → ¬ (cJ ts 5 = 1 ∧ cJ ts 1 + cJ ts 2 + cJ ts 3 = 0) → (cJ ts 5 = 0 ∧ 0 < cJ ts 6 ∧ cJ ts 1 + cJ ts 2 + cJ ts 3 = 0) → dN ts = 4) ∧
  (¬ cJ ts 4 = ts.length → ¬ (cJ ts 5 = 1 ∧ cJ ts 1 + cJ ts 2 + cJ ts 3 = 0) → ¬ (cJ ts 5 = 0 ∧ 0 < cJ ts 6 ∧ cJ ts 1 + cJ ts 2 + cJ ts 3 = 0) → (cJ ts 5 = 0 ∧ cJ ts 6 = 0) → dN ts = 1) ∧
  (¬ cJ ts 4 = ts.length → ¬ (cJ ts 5 = 1 ∧ cJ ts 1 + cJ ts 2 + cJ ts 3 = 0) → ¬ (cJ ts 5 = 0 ∧ 0 < cJ ts 6 ∧ cJ ts 1 + cJ ts 2 + cJ ts 3 = 0) → ¬ (cJ ts 5 = 0 ∧ cJ ts 6 = 0) → dN ts = 0) := by
 unfold dN
 refine ⟨fun h => by rw [if_pos h], fun h h2 => by rw [if_neg h, if_pos h2], fun h h2 h3 => by rw [if_neg h, if_neg h2, if_pos h3], fun h h2 h3 h4 => by rw [if_neg h, if_neg h2, if_neg h3, if_pos h4], fun h h2 h3 h4 => by rw [if_neg h, if_neg h2, if_neg h3, if_neg h4]⟩
theorem states_of {r : Run} (h : ∀ j, j < r.tasks.length → lD r j) : ∀ t ∈ r.tasks, 1 ≤ t.state ∧ t.state ≤ 6 := by
 intro t ht
 obtain ⟨k, hk, rfl⟩ := List.getElem_of_mem ht
 exact (h k hk hk).1
theorem rS (ts : List Task) (i : Nat) (h : i < (eP ts).length) : (eP ts)[i] = cJ ts (i : Int) := by
 rw [qP] at h
 rcases i with _ | _ | _ | _ | _ | _ | _ | i
 ·rfl
 ·rfl
 ·rfl
 ·rfl
 ·rfl
 ·rfl
 ·rfl
 ·omega

theorem aA6 (w : World) {r : Run} {cs : List Value} {fp : List Nat} (hc : Shape.C w cs r fp) (task : Int) (hlen : (r.tasks.length : Int) = r.plan.tasks) :
  Calls Tryz.prog 217 #[.agg cs.toArray, I task] w fun e w' => e = .returned (I (iM r task)) ∧ St w w' [] := by
 refine bX Tryz.func217 rfl Tryz.ntmps217 aW (wp_seq (aA (sg (aJ (cs := cs) rfl (St.start w) ?_)))); intro b1 W2 hb3 st4
 refine sg (aC (v := I 0) rfl (aB (wp_seq (aA (sg (aC (v := I 0) rfl (aB (wp_seq (wp_seq (aA ?_))))))))))
 have hk11 := hc
 obtain ⟨v11_0, v11_1, g11_0, g11_1, rfl, hok11, h11_0, h11_1, rfl⟩ := hk11
 refine rn st4 3 Ag.nil.put.put.put.put.put [] [(9, .agg #[I r.plan.prio, I r.plan.most, I r.plan.wait, I r.plan.tasks, v11_0]), (10, I task)] [qb 0 rfl 1] aE fun f12 h12_ => (sg (bU Tryz.func231 rfl (h12_.at 9) (h12_.at 10) ((BeforeOfI W2 (show Shape.C _ [I r.plan.prio, I r.plan.most, I r.plan.wait, I r.plan.tasks, v11_0] r.plan _ from ⟨_, _, rfl, eT, (h11_0.below st4.below), rfl⟩) task).mono ?_))); rintro _ W15 ⟨v13, fp13, rfl, hk16⟩; refine ⟨_, rfl, ?_⟩
 have st17 := St.call st4 hk16
 refine sg (fR eQ rfl (aI (st17.get 0 rfl)) ?_)
 have hbl := kY r.plan task
 refine sg (aG (v := I 0) rfl (aB (wp_block (aZ (fun (m : Nat) (f : Nat → Value) (W : World) => ∃ (k : Nat), k ≤ (cE r.plan task).length ∧ m = (cE r.plan task).length - k ∧ Ag [(2, .pointer (some ⟨b1, 0, none⟩)), (5, I (dU r ((cE r.plan task).take k))), (11, v13), (12, I ((cE r.plan task).length : Int)), (13, I (k : Int))] f ∧ St w W ([Res.own (α := List Int) v13 (cE r.plan task) fp13, Res.bx b1 [I r.id, I r.plan.prio, I r.plan.most, I r.plan.wait, I r.plan.tasks, v11_0, I r.state, v11_1] 123])) ((cE r.plan task).length - 0) ?_ ?_))))
 ·exact ⟨0, aD, rfl, (h12_.put.put.put.to aE), st17⟩
 intro m23 f24 W25 hJ26
 obtain ⟨k, hk, rfl, hA28, st27⟩ := hJ26
 have hnr := pF r ((cE r.plan task).take k)
 have htl := List.length_take_le k (cE r.plan task)
 refine wp_seq (aA (sg (bV (hA28.at 13) (hA28.at 12) (aB (wp_seq (aM rfl (fun h31p => ?_) (fun h31p => ?_)))))))
 ·refine wp_skip (wp_seq (wp_block (wp_seq (aA ?_))))
  have hi15359 : k < (cE r.plan task).length := aD
  have hq_ := idx (aI (st27.get 0 rfl)) (i := k) hi15359
  obtain ⟨b32, o32, cs32, f32, hp32, hr32, hc32, hm32⟩ := hq_
  have hk32 := hc32
  obtain ⟨rfl, rfl, hok32⟩ := hk32
  refine rn st27 3 hA28.put [] [(7, I ((cE r.plan task)[k]'hi15359))] [qx hp32, qn hr32 0] aE fun f34 h34_ => (aB (wp_seq (aA (rn st27 3 h34_ [] [(18, v11_1), (19, I ((cE r.plan task)[k]'hi15359))] [qb 1 rfl 7] aE fun f36 h36_ => ?_))))
  have hbr := uQ r.plan task _ (List.getElem_mem (l := (cE r.plan task)) (n := k) aD)
  have hi20db9 : (((cE r.plan task)[k]'hi15359)).toNat < r.tasks.length := aD
  have hq_ := idx h11_1 (i := (((cE r.plan task)[k]'hi15359)).toNat) hi20db9
  obtain ⟨b37, o37, cs37, f37, hp37, hr37, hc37, hm37⟩ := hq_
  have hk39 := hc37
  obtain ⟨he39, rfl, hok39⟩ := hk39
  have he39 : _ = [I (r.tasks[(((cE r.plan task)[k]'hi15359)).toNat]'hi20db9).state, I (r.tasks[(((cE r.plan task)[k]'hi15359)).toNat]'hi20db9).need, I (r.tasks[(((cE r.plan task)[k]'hi15359)).toNat]'hi20db9).try_, I (r.tasks[(((cE r.plan task)[k]'hi15359)).toNat]'hi20db9).until_] := he39
  subst he39
  refine rn st27 4 h36_ [] [(23, .bool (!decide ((r.tasks[(((cE r.plan task)[k]'hi15359)).toNat]'hi20db9).state = 4)))] [qxe hp37 (e := ((cE r.plan task)[k]'hi15359)) aD, qr hr37 0, .o] aE fun f40 h40_ => (aB (dF (h40_.at 23) (fun h41p => ?_) (fun h41p => ?_)))
  ·refine aA (rn st27 3 h40_ [5] [(5, I ((dU r ((cE r.plan task).take k)) + 1))] [qad (dU r ((cE r.plan task).take k)) 1] aE fun f43 h43_ => (aB (aA (sg (bQ (h43_.at 13) rfl dJ ?_)))))
   have hbl := kY r.plan task
   refine sg (aG (v := I ((k : Int) + 1)) rfl (aB ?_))
   exact ⟨_, (cE r.plan task).length - (k + 1), aD, rfl, k + 1, aD, rfl, (Ag.cons (h43_.at 2) (Ag.cons (Eq.trans (show _ = I ((dU r ((cE r.plan task).take k)) + 1) from (h43_.at 5)) (congrArg I (by rw [lG aD, oI aD]; simp only [h41p, decide_true, decide_false, Bool.false_eq_true, if_true, if_false]; try omega))) (Ag.cons (h43_.at 11) (Ag.cons (h43_.at 12) (Ag.cons rfl Ag.nil))))), st27⟩
  ·refine wp_skip (aA (sg (bQ (h40_.at 13) rfl dJ ?_)))
   have hbl := kY r.plan task
   refine sg (aG (v := I ((k : Int) + 1)) rfl (aB ?_))
   exact ⟨_, (cE r.plan task).length - (k + 1), aD, rfl, k + 1, aD, rfl, (Ag.cons (h40_.at 2) (Ag.cons (Eq.trans (show _ = I (dU r ((cE r.plan task).take k)) from (h40_.at 5)) (congrArg I (by rw [lG aD, oI aD]; simp only [h41p, decide_true, decide_false, Bool.false_eq_true, if_true, if_false]; try omega))) (Ag.cons (h40_.at 11) (Ag.cons (h40_.at 12) (Ag.cons rfl Ag.nil))))), st27⟩
 ·refine wp_exit (wp_seq (aA (sg (aG (v := I (dU r ((cE r.plan task).take k))) (hA28.at 5) (sg (aC (v := I (dU r ((cE r.plan task).take k))) rfl (aB (wr (aO Tryz.results217 rfl ?_)))))))))
  obtain rfl : k = (cE r.plan task).length := by omega
  exact ⟨(fI (by rw [List.take_length]; rfl)), st27.bare⟩
theorem TaskOkI (w : World) {r : Run} {cs : List Value} {fp : List Nat} (hc : Shape.C w cs r fp) {k : Nat} (hk : k < r.tasks.length) (hlen : (r.tasks.length : Int) = r.plan.tasks) :
  Calls Tryz.prog 161 #[.agg cs.toArray, I (k : Int)] w fun e w' => e = .returned (.bool (pB (bN r (iM r (k : Int)) (r.tasks[k]'hk)))) ∧ St w w' [] := by
 have hcap : r.tasks.length ≤ 9223372036854775807 := by have h0 := hc; obtain ⟨v1, v2, f1, f2, h0, hok, h1, h2, hfp⟩ := h0; exact h2.len_le
 refine bX Tryz.func161 rfl Tryz.ntmps161 aW (wp_seq (aA (sg (aJ (cs := cs) rfl (St.start w) ?_)))); intro b1 W2 hb3 st4
 refine sg (aC (v := .bool false) rfl (aB (wp_seq (aA ?_))))
 have hk9 := hc
 obtain ⟨v9_0, v9_1, g9_0, g9_1, rfl, hok9, h9_0, h9_1, rfl⟩ := hk9
 have hif4d94 : k < r.tasks.length := aD
 have hq_ := idx h9_1 (i := k) hif4d94
 obtain ⟨b10, o10, cs10, f10, hp10, hr10, hc10, hm10⟩ := hq_
 refine rn st4 5 Ag.nil.put.put.put.put [] [(10, .agg cs10.toArray)] [qb 0 rfl 7, qx hp10, qrw hr10 (Shape.len hc10)] aE fun f11 h11_ => (sg (aP iW st4 ?_)); intro b12 W13 hb14 st15
 refine sg (aL (cs := cs10) hX hc10 rfl (h11_.at 10) st15 rfl ?_); intro W17 st18
 refine aB (wp_seq (wp_seq ?_))
 rcases bd (!(inB (r.tasks[k]'hif4d94).state 1 6)) with h21 | h21
 ·have h21p := inB_iff'.1 (bB h21)
  rcases Decidable.em ((r.tasks[k]'hif4d94).need = (iM r (k : Int))) with h24p | h24p
  ·have h24 := iG h24p
   have hk26 := hc10
   obtain ⟨he26, rfl, hok26⟩ := hk26
   have he26 : _ = [I (r.tasks[k]'hif4d94).state, I (r.tasks[k]'hif4d94).need, I (r.tasks[k]'hif4d94).try_, I (r.tasks[k]'hif4d94).until_] := he26
   subst he26
   refine rd st18 h11_.put [] [(31, .bool (!(inB (r.tasks[k]'hif4d94).try_ 0 r.plan.most)))] [qb 0 rfl 0, qc (args := [I (r.tasks[k]'hif4d94).state, I 1, I 6]) (v := .bool (inB (r.tasks[k]'hif4d94).state 1 6)) Tryz.func47 rfl (fun W s b => bW W (r.tasks[k]'hif4d94).state 1 6), qk h21, qb 0 rfl 1, qb 1 rfl 0, qc Tryz.func217 rfl (fun W s b => aA6 W (aV hc s.below) (k : Int) aD), qk h24, qb 0 rfl 2, qb 1 rfl 2, qc (args := [I (r.tasks[k]'hif4d94).try_, I 0, I r.plan.most]) (v := .bool (inB (r.tasks[k]'hif4d94).try_ 0 r.plan.most)) Tryz.func47 rfl (fun W s b => bW W (r.tasks[k]'hif4d94).try_ 0 r.plan.most), .o] aE aE fun f27 W28 h27_ st29 hb30 => (cM (h27_.at 31) (fun h31 => ?_) (fun h31 => ?_))
   ·have h31p := cH (aX h31)
    refine wp_seq (aA (sg (aC (v := .bool false) rfl (aB (wr (aO Tryz.results161 rfl ?_))))))
    exact ⟨(fB (by rw [cP (by unfold bN; omega)])), st29.bare⟩
   ·have h31p := inB_iff'.1 (bB h31)
    refine wp_skip (wp_seq (wp_seq (aA ?_)))
    rcases nem ((r.tasks[k]'hif4d94).state = 3) with h35p | h35p
    ·have h35 := decide_eq_false h35p
     refine rn st29 19 h27_ [] [(50, .bool (!decide ((r.tasks[k]'hif4d94).until_ = 0)))] [qb 0 rfl 0, qk h35, qb 0 rfl 0, qk (congrArg not h35), qb 0 rfl 3, .o] aE fun f36 h36_ => (aB (dF (h36_.at 50) (fun h37p => ?_) (fun h37p => ?_)))
     ·refine wp_seq (aA (sg (aC (v := .bool false) rfl (aB (wr (aO Tryz.results161 rfl ?_))))))
      exact ⟨(fB (by rw [cP (by unfold bN; omega)])), st29.bare⟩
     ·refine wp_skip (wp_seq (wp_seq (aA (sg (aH iA (h36_.at 5) (sg (aU eA rfl rfl (st29.get 0 rfl) (i := 0) rfl rfl (aB (wp_block (wp_seq (aA (sg (dI rfl rfl (sg (aC (v := .bool (decide ((r.tasks[k]'hif4d94).state = 1))) rfl ?_)))))))))))))))
      refine aB (aM rfl (fun h44p => ?_) (fun h44p => ?_))
      ·refine wp_seq (aA (rn st29 4 h36_.put.put.put.put [4] [(4, .bool (decide (0 < (r.tasks[k]'hif4d94).need)))] [qb 0 rfl 1, .o] aE fun f46 h46_ => (aB ?_)))
       rcases nem (0 < (r.tasks[k]'hif4d94).need) with h47p | h47p
       ·have h47 := decide_eq_false h47p
        refine wr (aO Tryz.results161 ((h46_.at 4).trans (congrArg Value.bool h47)) ?_)
        exact ⟨(fB (by rw [cP (by unfold bN; omega)])), st29.bare⟩
       ·have h47 := decide_eq_true h47p
        refine wr (aO Tryz.results161 ((h46_.at 4).trans (congrArg Value.bool h47)) ?_)
        exact ⟨(fB (by rw [gI (by unfold bN; omega)])), st29.bare⟩
      ·refine wp_seq (aA (sg (dI rfl rfl (sg (aC (v := .bool (decide ((r.tasks[k]'hif4d94).state = 2))) rfl (aB (aM rfl (fun h50p => ?_) (fun h50p => ?_))))))))
       ·refine wp_seq (aA ?_)
        rcases nem ((r.tasks[k]'hif4d94).need = 0) with h52p | h52p
        ·have h52 := decide_eq_false h52p
         refine lw h36_.put.put.put.put.put.put [(5, .pointer (some ⟨b12, 0, none⟩))] aE fun h54_ => (rn st29 12 h54_ [] [(4, .bool false)] [qb 0 rfl 1, qk h52] aE fun f53 h53_ => (aB (wr (aO Tryz.results161 (h53_.at 4) ?_))))
         exact ⟨(fB (by rw [cP (by unfold bN; omega)])), st29.bare⟩
        ·have h52 := decide_eq_true h52p
         refine lw h36_.put.put.put.put.put.put [(2, .pointer (some ⟨b1, 0, none⟩)), (5, .pointer (some ⟨b12, 0, none⟩))] aE fun h56_ => (rn st29 12 h56_ [] [(4, .bool (decide ((r.tasks[k]'hif4d94).try_ < r.plan.most)))] [qb 0 rfl 1, qk h52, qb 0 rfl 2, qb 1 rfl 2, .o] aE fun f55 h55_ => (aB ?_))
         rcases nem ((r.tasks[k]'hif4d94).try_ < r.plan.most) with h57p | h57p
         ·have h57 := decide_eq_false h57p
          refine wr (aO Tryz.results161 ((h55_.at 4).trans (congrArg Value.bool h57)) ?_)
          exact ⟨(fB (by rw [cP (by unfold bN; omega)])), st29.bare⟩
         ·have h57 := decide_eq_true h57p
          refine wr (aO Tryz.results161 ((h55_.at 4).trans (congrArg Value.bool h57)) ?_)
          exact ⟨(fB (by rw [gI (by unfold bN; omega)])), st29.bare⟩
       ·refine wp_seq (wp_seq (aA (sg (dI rfl rfl (sg (aC (v := .bool (decide ((r.tasks[k]'hif4d94).state = 3))) rfl (aB (gQ rfl h35 (wp_seq (aA (sg (dI rfl rfl (sg (aC (v := .bool (decide ((r.tasks[k]'hif4d94).state = 4))) rfl (aB ?_)))))))))))))))
        refine aM rfl (fun h62p => ?_) (fun h62p => ?_)
        ·have h62 := decide_eq_true h62p
         refine wp_skip (fA rfl h62 (wp_seq (aA ?_)))
         rcases nem ((r.tasks[k]'hif4d94).need = 0) with h64p | h64p
         ·have h64 := decide_eq_false h64p
          refine lw h36_.put.put.put.put.put.put.put.put.put.put [(5, .pointer (some ⟨b12, 0, none⟩))] aE fun h66_ => (rn st29 9 h66_ [] [(4, .bool false)] [qb 0 rfl 1, qk h64] aE fun f65 h65_ => (aB (wr (aO Tryz.results161 (h65_.at 4) ?_))))
          exact ⟨(fB (by rw [cP (by unfold bN; omega)])), st29.bare⟩
         ·have h64 := decide_eq_true h64p
          refine lw h36_.put.put.put.put.put.put.put.put.put.put [(5, .pointer (some ⟨b12, 0, none⟩))] aE fun h68_ => (rn st29 9 h68_ [] [(4, .bool (decide (1 ≤ (r.tasks[k]'hif4d94).try_)))] [qb 0 rfl 1, qk h64, qb 0 rfl 2, .o] aE fun f67 h67_ => (aB ?_))
          rcases nem (1 ≤ (r.tasks[k]'hif4d94).try_) with h69p | h69p
          ·have h69 := decide_eq_false h69p
           refine wr (aO Tryz.results161 ((h67_.at 4).trans (congrArg Value.bool h69)) ?_)
           exact ⟨(fB (by rw [cP (by unfold bN; omega)])), st29.bare⟩
          ·have h69 := decide_eq_true h69p
           refine wr (aO Tryz.results161 ((h67_.at 4).trans (congrArg Value.bool h69)) ?_)
           exact ⟨(fB (by rw [gI (by unfold bN; omega)])), st29.bare⟩
        ·have h62 := decide_eq_false h62p
         refine aA (sg (dI rfl rfl (sg (aC (v := .bool (decide ((r.tasks[k]'hif4d94).state = 5))) rfl (aB (aM rfl (fun h72p => ?_) (fun h72p => ?_)))))))
         ·refine wp_seq (aA ?_)
          rcases nem ((r.tasks[k]'hif4d94).need = 0) with h74p | h74p
          ·have h74 := decide_eq_false h74p
           refine lw h36_.put.put.put.put.put.put.put.put.put.put.put.put [(5, .pointer (some ⟨b12, 0, none⟩))] aE fun h76_ => (rn st29 9 h76_ [] [(4, .bool false)] [qb 0 rfl 1, qk h74] aE fun f75 h75_ => (aB (wr (aO Tryz.results161 (h75_.at 4) ?_))))
           exact ⟨(fB (by rw [cP (by unfold bN; omega)])), st29.bare⟩
          ·have h74 := decide_eq_true h74p
           refine lw h36_.put.put.put.put.put.put.put.put.put.put.put.put [(5, .pointer (some ⟨b12, 0, none⟩))] aE fun h78_ => (rn st29 9 h78_ [] [(4, .bool (decide (1 ≤ (r.tasks[k]'hif4d94).try_)))] [qb 0 rfl 1, qk h74, qb 0 rfl 2, .o] aE fun f77 h77_ => (aB ?_))
           rcases nem (1 ≤ (r.tasks[k]'hif4d94).try_) with h79p | h79p
           ·have h79 := decide_eq_false h79p
            refine wr (aO Tryz.results161 ((h77_.at 4).trans (congrArg Value.bool h79)) ?_)
            exact ⟨(fB (by rw [cP (by unfold bN; omega)])), st29.bare⟩
           ·have h79 := decide_eq_true h79p
            refine wr (aO Tryz.results161 ((h77_.at 4).trans (congrArg Value.bool h79)) ?_)
            exact ⟨(fB (by rw [gI (by unfold bN; omega)])), st29.bare⟩
         ·refine wp_skip (wp_seq (aA (sg (aC (v := .bool true) rfl (aB (wr (aO Tryz.results161 rfl ?_)))))))
          exact ⟨(fB (by rw [gI (by unfold bN; omega)])), st29.bare⟩
    ·have h35 := decide_eq_true h35p
     rcases bd (!(inB (r.tasks[k]'hif4d94).until_ 1 1000000000)) with h82 | h82
     ·have h82p := inB_iff'.1 (bB h82)
      refine rc st29 19 h27_ [] [(50, .bool false)] [qb 0 rfl 0, qk h35, qb 0 rfl 3, qc (args := [I (r.tasks[k]'hif4d94).until_, I 1, I 1000000000]) (v := .bool (inB (r.tasks[k]'hif4d94).until_ 1 1000000000)) Tryz.func47 rfl (fun W s b => bW W (r.tasks[k]'hif4d94).until_ 1 1000000000), qk h82, qb 0 rfl 0, qk (congrArg not h35)] aE fun f83 W84 h83_ st85 hb86 => (aB (gQ (h83_.at 50) rfl (wp_skip (wp_seq (wp_seq (aA (sg (aH iA (h83_.at 5) (sg (aU eA rfl rfl (st85.get 0 rfl) (i := 0) rfl rfl (aB (wp_block (wp_seq ?_)))))))))))))
      refine aA (sg (dI rfl rfl (sg (aC (v := .bool (decide ((r.tasks[k]'hif4d94).state = 1))) rfl (aB (aM rfl (fun h91p => ?_) (fun h91p => ?_)))))))
      ·refine wp_seq (aA (rn st85 4 h83_.put.put.put.put [4] [(4, .bool (decide (0 < (r.tasks[k]'hif4d94).need)))] [qb 0 rfl 1, .o] aE fun f93 h93_ => (aB ?_)))
       rcases nem (0 < (r.tasks[k]'hif4d94).need) with h94p | h94p
       ·have h94 := decide_eq_false h94p
        refine wr (aO Tryz.results161 ((h93_.at 4).trans (congrArg Value.bool h94)) ?_)
        exact ⟨(fB (by rw [cP (by unfold bN; omega)])), st85.bare⟩
       ·have h94 := decide_eq_true h94p
        refine wr (aO Tryz.results161 ((h93_.at 4).trans (congrArg Value.bool h94)) ?_)
        exact ⟨(fB (by rw [gI (by unfold bN; omega)])), st85.bare⟩
      ·refine wp_seq (aA (sg (dI rfl rfl (sg (aC (v := .bool (decide ((r.tasks[k]'hif4d94).state = 2))) rfl (aB (aM rfl (fun h97p => ?_) (fun h97p => ?_))))))))
       ·refine wp_seq (aA ?_)
        rcases nem ((r.tasks[k]'hif4d94).need = 0) with h99p | h99p
        ·have h99 := decide_eq_false h99p
         refine lw h83_.put.put.put.put.put.put [(5, .pointer (some ⟨b12, 0, none⟩))] aE fun h101_ => (rn st85 12 h101_ [] [(4, .bool false)] [qb 0 rfl 1, qk h99] aE fun f100 h100_ => (aB (wr (aO Tryz.results161 (h100_.at 4) ?_))))
         exact ⟨(fB (by rw [cP (by unfold bN; omega)])), st85.bare⟩
        ·have h99 := decide_eq_true h99p
         refine lw h83_.put.put.put.put.put.put [(2, .pointer (some ⟨b1, 0, none⟩)), (5, .pointer (some ⟨b12, 0, none⟩))] aE fun h103_ => (rn st85 12 h103_ [] [(4, .bool (decide ((r.tasks[k]'hif4d94).try_ < r.plan.most)))] [qb 0 rfl 1, qk h99, qb 0 rfl 2, qb 1 rfl 2, .o] aE fun f102 h102_ => (aB ?_))
         rcases nem ((r.tasks[k]'hif4d94).try_ < r.plan.most) with h104p | h104p
         ·have h104 := decide_eq_false h104p
          refine wr (aO Tryz.results161 ((h102_.at 4).trans (congrArg Value.bool h104)) ?_)
          exact ⟨(fB (by rw [cP (by unfold bN; omega)])), st85.bare⟩
         ·have h104 := decide_eq_true h104p
          refine wr (aO Tryz.results161 ((h102_.at 4).trans (congrArg Value.bool h104)) ?_)
          exact ⟨(fB (by rw [gI (by unfold bN; omega)])), st85.bare⟩
       ·refine wp_seq (wp_seq (aA (sg (dI rfl rfl (sg (aC (v := .bool (decide ((r.tasks[k]'hif4d94).state = 3))) rfl (aB (fA rfl h35 (wp_skip (fA rfl h35 (wp_seq (aA ?_))))))))))))
        rcases nem ((r.tasks[k]'hif4d94).need = 0) with h108p | h108p
        ·have h108 := decide_eq_false h108p
         refine lw h83_.put.put.put.put.put.put.put.put [(5, .pointer (some ⟨b12, 0, none⟩))] aE fun h110_ => (rn st85 9 h110_ [] [(4, .bool false)] [qb 0 rfl 1, qk h108] aE fun f109 h109_ => (aB (wr (aO Tryz.results161 (h109_.at 4) ?_))))
         exact ⟨(fB (by rw [cP (by unfold bN; omega)])), st85.bare⟩
        ·have h108 := decide_eq_true h108p
         refine lw h83_.put.put.put.put.put.put.put.put [(5, .pointer (some ⟨b12, 0, none⟩))] aE fun h112_ => (rn st85 9 h112_ [] [(4, .bool (decide (1 ≤ (r.tasks[k]'hif4d94).try_)))] [qb 0 rfl 1, qk h108, qb 0 rfl 2, .o] aE fun f111 h111_ => (aB ?_))
         rcases nem (1 ≤ (r.tasks[k]'hif4d94).try_) with h113p | h113p
         ·have h113 := decide_eq_false h113p
          refine wr (aO Tryz.results161 ((h111_.at 4).trans (congrArg Value.bool h113)) ?_)
          exact ⟨(fB (by rw [cP (by unfold bN; omega)])), st85.bare⟩
         ·have h113 := decide_eq_true h113p
          refine wr (aO Tryz.results161 ((h111_.at 4).trans (congrArg Value.bool h113)) ?_)
          exact ⟨(fB (by rw [gI (by unfold bN; omega)])), st85.bare⟩
     ·have h82p := cH (aX h82)
      refine rc st29 19 h27_ [] [(50, .bool true)] [qb 0 rfl 0, qk h35, qb 0 rfl 3, qc (args := [I (r.tasks[k]'hif4d94).until_, I 1, I 1000000000]) (v := .bool (inB (r.tasks[k]'hif4d94).until_ 1 1000000000)) Tryz.func47 rfl (fun W s b => bW W (r.tasks[k]'hif4d94).until_ 1 1000000000), qk h82] aE fun f114 W115 h114_ st116 hb117 => (aB (fA (h114_.at 50) rfl (wp_seq (aA (sg (aC (v := .bool false) rfl (aB (wr (aO Tryz.results161 rfl ?_)))))))))
      exact ⟨(fB (by rw [cP (by unfold bN; omega)])), st116.bare⟩
  ·have h24 := iF h24p
   have hk121 := hc10
   obtain ⟨he121, rfl, hok121⟩ := hk121
   have he121 : _ = [I (r.tasks[k]'hif4d94).state, I (r.tasks[k]'hif4d94).need, I (r.tasks[k]'hif4d94).try_, I (r.tasks[k]'hif4d94).until_] := he121
   subst he121
   refine rd st18 h11_.put [] [(31, .bool true)] [qb 0 rfl 0, qc (args := [I (r.tasks[k]'hif4d94).state, I 1, I 6]) (v := .bool (inB (r.tasks[k]'hif4d94).state 1 6)) Tryz.func47 rfl (fun W s b => bW W (r.tasks[k]'hif4d94).state 1 6), qk h21, qb 0 rfl 1, qb 1 rfl 0, qc Tryz.func217 rfl (fun W s b => aA6 W (aV hc s.below) (k : Int) aD), qk h24] aE aE fun f122 W123 h122_ st124 hb125 => (fA (h122_.at 31) rfl (wp_seq (aA (sg (aC (v := .bool false) rfl (aB (wr (aO Tryz.results161 rfl ?_))))))))
   exact ⟨(fB (by rw [cP (by unfold bN; omega)])), st124.bare⟩
 ·have h21p := cH (aX h21)
  have hk129 := hc10
  obtain ⟨he129, rfl, hok129⟩ := hk129
  have he129 : _ = [I (r.tasks[k]'hif4d94).state, I (r.tasks[k]'hif4d94).need, I (r.tasks[k]'hif4d94).try_, I (r.tasks[k]'hif4d94).until_] := he129
  subst he129
  refine rd st18 h11_.put [] [(31, .bool true)] [qb 0 rfl 0, qc (args := [I (r.tasks[k]'hif4d94).state, I 1, I 6]) (v := .bool (inB (r.tasks[k]'hif4d94).state 1 6)) Tryz.func47 rfl (fun W s b => bW W (r.tasks[k]'hif4d94).state 1 6), qk h21] aE aE fun f130 W131 h130_ st132 hb133 => (fA (h130_.at 31) rfl (wp_seq (aA (sg (aC (v := .bool false) rfl (aB (wr (aO Tryz.results161 rfl ?_))))))))
  exact ⟨(fB (by rw [cP (by unfold bN; omega)])), st132.bare⟩
theorem zC (w : World) {r : Run} {cs : List Value} {fp : List Nat} (hc : Shape.C w cs r fp) :
  Calls Tryz.prog 97 #[.agg cs.toArray] w fun e w' => e = .returned (.bool (dK r)) ∧ St w w' [] := by
 have hcap : r.tasks.length ≤ 9223372036854775807 := by have h0 := hc; obtain ⟨v1, v2, f1, f2, h0, hok, h1, h2, hfp⟩ := h0; exact h2.len_le
 refine cO Tryz.func97 rfl Tryz.ntmps97 aW (wp_seq (aA (sg (aJ (cs := cs) rfl (St.start w) ?_)))); intro b1 W2 hb3 st4
 refine sg (aC (v := .bool false) rfl (aB (wp_seq (wp_seq (aA ?_)))))
 have hk9 := hc
 obtain ⟨v9_0, v9_1, g9_0, g9_1, rfl, hok9, h9_0, h9_1, rfl⟩ := hk9
 rcases bd (!(inB r.id 1 9999)) with h10 | h10
 ·have h10p := inB_iff'.1 (bB h10)
  rcases Decidable.em ((cX r.plan) = 0) with h11p | h11p
  ·have h11 := iG h11p
   refine rc st4 19 Ag.nil.put.put.put [] [(26, .bool (!decide ((r.tasks.length : Int) = r.plan.tasks)))] [qb 0 rfl 0, qc Tryz.func47 rfl (fun W s b => bW W r.id 1 9999), qk h10, qb 0 rfl 1, qc Tryz.func160 rfl (fun W s b => mU W (show Shape.C _ [I r.plan.prio, I r.plan.most, I r.plan.wait, I r.plan.tasks, v9_0] r.plan _ from ⟨_, _, rfl, eT, (h9_0.below s.below), rfl⟩)), qk h11, qb 0 rfl 7, ql h9_1, qb 0 rfl 4, .o] aE fun f12 W13 h12_ st14 hb15 => (aB (dF (h12_.at 26) (fun h16p => ?_) (fun h16p => ?_)))
   ·refine wp_seq (aA (sg (aC (v := .bool false) rfl (aB (wr (aO Tryz.results97 rfl ?_))))))
    exact ⟨(fB (by unfold dK; rw [cP (by rintro ⟨hz1, hz2, hz3, hz4, hz5, hz6⟩; omega)])), st14.bare⟩
   ·refine wp_skip (wp_seq (wp_seq (aA ?_)))
    have hMb := pM (lU (by omega : cX r.plan = 0)).1
    refine rn st14 4 h12_ [] [(29, I (r.tasks.length : Int)), (30, I 0)] [qb 0 rfl 7, ql h9_1] aE fun f20 h20_ => (aB (wp_block (aZ (fun (m : Nat) (f : Nat → Value) (W : World) => ∃ (k : Nat), k ≤ r.tasks.length ∧ (∀ j, j < k → lD r j) ∧ m = r.tasks.length - k ∧ Ag [(1, .pointer (some ⟨b1, 0, none⟩)), (29, I (r.tasks.length : Int)), (30, I (k : Int))] f ∧ St w W ([Res.bx b1 [I r.id, I r.plan.prio, I r.plan.most, I r.plan.wait, I r.plan.tasks, v9_0, I r.state, v9_1] 123])) (r.tasks.length - 0) ?_ ?_)))
    ·exact ⟨0, aD, (fun j hj => absurd hj (Nat.not_lt_zero j)), rfl, (h20_.to aE), st14⟩
    intro m21 f22 W23 hJ24
    obtain ⟨k, hk, hT, rfl, hA26, st25⟩ := hJ24
    refine wp_seq (aA (sg (bV (hA26.at 30) (hA26.at 29) (aB (wp_seq (aM rfl (fun h29p => ?_) (fun h29p => ?_)))))))
    ·refine wp_skip (wp_seq (wp_block (wp_seq (aA (sg (aG (v := I (k : Int)) (hA26.at 30) (sg (aC (v := I (k : Int)) rfl (aB (wp_seq (aA (rc st25 4 hA26.put.put.put [] [(36, .bool (!(pB (bN r (iM r (k : Int)) (r.tasks[k]'(by omega))))))] [qb 0 rfl 0, qc (args := [.agg #[I r.id, I r.plan.prio, I r.plan.most, I r.plan.wait, I r.plan.tasks, v9_0, I r.state, v9_1], I (k : Int)]) (v := .bool (pB (bN r (iM r (k : Int)) (r.tasks[k]'(by omega))))) Tryz.func161 rfl (fun W s b => TaskOkI W (aV hc s.below) (k := k) aD aD), .o] aE fun f33 W34 h33_ st35 hb36 => (aB ?_)))))))))))))
     refine cM (h33_.at 36) (fun h37 => ?_) (fun h37 => ?_)
     ·refine wp_seq (aA (sg (aC (v := .bool false) rfl (aB (wr (aO Tryz.results97 rfl ?_))))))
      exact ⟨(fB (by unfold dK; rw [cP (fun hz => yW (aX h37) (hz.2.2.2.1 k aD aD))])), st35.bare⟩
     ·refine wp_skip (aA (sg (bQ (h33_.at 30) rfl dJ (sg (aG (v := I ((k : Int) + 1)) rfl (aB ?_))))))
      exact ⟨_, r.tasks.length - (k + 1), aD, rfl, k + 1, aD, (fun j hj => by rcases Nat.lt_succ_iff_lt_or_eq.1 hj with h1 | rfl; exact hT j h1; exact fun _ => pB_iff.1 ((bB h37))), rfl, (h33_.put.put.to aE), st35⟩
    ·refine wp_exit (wp_seq ?_)
     have hTk : ∀ j, j < r.tasks.length → lD r j := by rw [show k = r.tasks.length by omega] at hT; exact hT
     have hc4 := jU r.tasks 4
     have hc5 := jU r.tasks 5
     have hc6 := jU r.tasks 6
     have hsum := aA2 (states_of hTk)
     have hso := oQ r.tasks
     have hn1 := dW r.tasks 1
     have hn2 := dW r.tasks 2
     have hn3 := dW r.tasks 3
     have hn4 := dW r.tasks 4
     have hn5 := dW r.tasks 5
     have hn6 := dW r.tasks 6
     refine oZ [Pl.is (.agg #[I r.id, I r.plan.prio, I r.plan.most, I r.plan.wait, I r.plan.tasks, v9_0, I r.state, v9_1]), Pl.ssl (α := Int) (bF r.tasks 4), Pl.is (I ((bF r.tasks 4).length : Int)), Pl.is (.agg #[I r.id, I r.plan.prio, I r.plan.most, I r.plan.wait, I r.plan.tasks, v9_0, I r.state, v9_1]), Pl.ssl (α := Int) (bF r.tasks 5), Pl.is (I ((bF r.tasks 5).length : Int)), Pl.is (.agg #[I r.id, I r.plan.prio, I r.plan.most, I r.plan.wait, I r.plan.tasks, v9_0, I r.state, v9_1]), Pl.ssl (α := Int) (bF r.tasks 6), Pl.is (I ((bF r.tasks 6).length : Int)), Pl.is (I ((bF r.tasks 4).length : Int)), Pl.is (I ((bF r.tasks 5).length : Int)), Pl.is (I ((bF r.tasks 6).length : Int))] mix (by rfl) st25 ⟨(fun f W hst hbl hd hf => aT (cs := [I r.id, I r.plan.prio, I r.plan.most, I r.plan.wait, I r.plan.tasks, v9_0, I r.state, v9_1]) cR rfl ((hf 1 rfl).trans (hA26.at 1)) (hst.get 0 rfl) rfl rfl brq), (fun f W hst hbl hd hf => bU Tryz.func162 rfl (hd 0 38 rfl rfl) rfl ((mB W (aV hc hst.below) 4 aD).mono (by rintro e W2 ⟨v, fp, rfl, hk⟩; exact ⟨_, rfl, hk.below, fp, aI (hk.get 0 rfl)⟩))), (fun f W hst hbl hd hf => by obtain ⟨fp44, h44⟩ := hd 1 39 rfl rfl; exact fR eQ rfl h44 brq), (fun f W hst hbl hd hf => aT (cs := [I r.id, I r.plan.prio, I r.plan.most, I r.plan.wait, I r.plan.tasks, v9_0, I r.state, v9_1]) cR rfl ((hf 1 rfl).trans (hA26.at 1)) (hst.get 0 rfl) rfl rfl brq), (fun f W hst hbl hd hf => bU Tryz.func162 rfl (hd 3 41 rfl rfl) rfl ((mB W (aV hc hst.below) 5 aD).mono (by rintro e W2 ⟨v, fp, rfl, hk⟩; exact ⟨_, rfl, hk.below, fp, aI (hk.get 0 rfl)⟩))), (fun f W hst hbl hd hf => by obtain ⟨fp47, h47⟩ := hd 4 42 rfl rfl; exact fR eQ rfl h47 brq), (fun f W hst hbl hd hf => aT (cs := [I r.id, I r.plan.prio, I r.plan.most, I r.plan.wait, I r.plan.tasks, v9_0, I r.state, v9_1]) cR rfl ((hf 1 rfl).trans (hA26.at 1)) (hst.get 0 rfl) rfl rfl brq), (fun f W hst hbl hd hf => bU Tryz.func162 rfl (hd 6 44 rfl rfl) rfl ((mB W (aV hc hst.below) 6 aD).mono (by rintro e W2 ⟨v, fp, rfl, hk⟩; exact ⟨_, rfl, hk.below, fp, aI (hk.get 0 rfl)⟩))), (fun f W hst hbl hd hf => by obtain ⟨fp50, h50⟩ := hd 7 45 rfl rfl; exact fR eQ rfl h50 brq), (fun f W hst hbl hd hf => aC (v := I ((bF r.tasks 4).length : Int)) (hd 2 40 rfl rfl) brq), (fun f W hst hbl hd hf => aC (v := I ((bF r.tasks 5).length : Int)) (hd 5 43 rfl rfl) brq), (fun f W hst hbl hd hf => aC (v := I ((bF r.tasks 6).length : Int)) (hd 8 46 rfl rfl) brq), trivial⟩ ?_
     intro f51 W52 st53 hb54 hv55 hf56
     refine wp_seq (aA (rn st53 10 (Ag.cons (show f51 1 = .pointer (some ⟨b1, 0, none⟩) from ((hf56 1 rfl).trans (hA26.at 1))) (Ag.cons (show f51 4 = I ((bF r.tasks 4).length : Int) from (hv55 9 4 aW rfl)) (Ag.cons (show f51 5 = I ((bF r.tasks 5).length : Int) from (hv55 10 5 aW rfl)) (Ag.cons (show f51 6 = I ((bF r.tasks 6).length : Int) from (hv55 11 6 aW rfl)) Ag.nil)))) [] [(7, .bool (decide (((((bF r.tasks 4).length : Int) + ((bF r.tasks 5).length : Int)) + ((bF r.tasks 6).length : Int)) = (r.tasks.length : Int))))] [qad ((bF r.tasks 4).length : Int) ((bF r.tasks 5).length : Int), qad (((bF r.tasks 4).length : Int) + ((bF r.tasks 5).length : Int)) ((bF r.tasks 6).length : Int), qb 0 rfl 7, ql h9_1, .o] aE fun f59 h59_ => (aB (wp_seq (wp_block (wp_seq (aA (rn st53 6 h59_ [] [(56, .bool (decide (((bF r.tasks 4).length : Int) = (r.tasks.length : Int))))] [qb 0 rfl 7, ql h9_1, .o] aE fun f61 h61_ => (aB (aM (h61_.at 56) (fun h62p => ?_) (fun h62p => ?_)))))))))))
     ·refine wp_seq (aA (rn st53 4 h61_ [] [(2, .bool (decide (r.state = 2)))] [qb 0 rfl 6, .o] aE fun f64 h64_ => (aB ?_)))
      rcases nem (r.state = 2) with h65p | h65p
      ·have h65 := decide_eq_false h65p
       refine wr (aO Tryz.results97 ((h64_.at 2).trans (congrArg Value.bool h65)) ?_)
       exact ⟨(fB (by unfold dK; rw [cP (by rintro ⟨hz1, hz2, hz3, hz4, hz5, hz6⟩; omega)])), st53.bare⟩
      ·have h65 := decide_eq_true h65p
       refine wr (aO Tryz.results97 ((h64_.at 2).trans (congrArg Value.bool h65)) ?_)
       exact ⟨(fB (by unfold dK; rw [gI ⟨by omega, by omega, by omega, hTk, by omega, by omega⟩])), st53.bare⟩
     ·refine wp_seq (aA ?_)
      rcases nem (((bF r.tasks 5).length : Int) = 1) with h67p | h67p
      ·have h67 := decide_eq_false h67p
       refine rn st53 6 h61_ [] [(65, .bool false)] [qk h67] aE fun f68 h68_ => (aB (gQ (h68_.at 65) rfl (wp_seq (aA ?_))))
       rcases nem (((bF r.tasks 5).length : Int) = 0) with h70p | h70p
       ·have h70 := decide_eq_false h70p
        refine rn st53 10 h68_ [] [(74, .bool false)] [qk h70] aE fun f71 h71_ => (aB (gQ (h71_.at 74) rfl (wp_skip (wp_seq (aA ?_)))))
        rcases nem (r.state = 1) with h73p | h73p
        ·have h73 := decide_eq_false h73p
         refine rn st53 12 h71_ [] [(2, .bool false)] [qb 0 rfl 6, qk h73] aE fun f74 h74_ => (aB (wr (aO Tryz.results97 (h74_.at 2) ?_)))
         exact ⟨(fB (by unfold dK; rw [cP (by rintro ⟨hz1, hz2, hz3, hz4, hz5, hz6⟩; omega)])), st53.bare⟩
        ·have h73 := decide_eq_true h73p
         refine rn st53 12 h71_ [] [(2, .bool false)] [qb 0 rfl 6, qk h73, qk h70] aE fun f75 h75_ => (aB (wr (aO Tryz.results97 (h75_.at 2) ?_)))
         exact ⟨(fB (by unfold dK; rw [cP (by rintro ⟨hz1, hz2, hz3, hz4, hz5, hz6⟩; omega)])), st53.bare⟩
       ·have h70 := decide_eq_true h70p
        rcases nem (0 < ((bF r.tasks 6).length : Int)) with h76p | h76p
        ·have h76 := decide_eq_false h76p
         refine rn st53 10 h68_ [] [(74, .bool false)] [qk h70, qk h76] aE fun f77 h77_ => (aB (gQ (h77_.at 74) rfl (wp_skip (wp_seq (aA ?_)))))
         rcases nem (r.state = 1) with h79p | h79p
         ·have h79 := decide_eq_false h79p
          refine rn st53 12 h77_ [] [(2, .bool false)] [qb 0 rfl 6, qk h79] aE fun f80 h80_ => (aB (wr (aO Tryz.results97 (h80_.at 2) ?_)))
          exact ⟨(fB (by unfold dK; rw [cP (by rintro ⟨hz1, hz2, hz3, hz4, hz5, hz6⟩; omega)])), st53.bare⟩
         ·have h79 := decide_eq_true h79p
          refine rn st53 12 h77_ [] [(2, .bool (decide (((bF r.tasks 6).length : Int) = 0)))] [qb 0 rfl 6, qk h79, qk h70, .o] aE fun f81 h81_ => (aB ?_)
          rcases nem (((bF r.tasks 6).length : Int) = 0) with h82p | h82p
          ·have h82 := decide_eq_false h82p
           refine wr (aO Tryz.results97 ((h81_.at 2).trans (congrArg Value.bool h82)) ?_)
           exact ⟨(fB (by unfold dK; rw [cP (by rintro ⟨hz1, hz2, hz3, hz4, hz5, hz6⟩; omega)])), st53.bare⟩
          ·have h82 := decide_eq_true h82p
           refine wr (aO Tryz.results97 ((h81_.at 2).trans (congrArg Value.bool h82)) ?_)
           exact ⟨(fB (by unfold dK; rw [gI ⟨by omega, by omega, by omega, hTk, by omega, by omega⟩])), st53.bare⟩
        ·have h76 := decide_eq_true h76p
         refine rn st53 10 h68_ [] [(74, .bool (decide (((((bF r.tasks 4).length : Int) + ((bF r.tasks 5).length : Int)) + ((bF r.tasks 6).length : Int)) = (r.tasks.length : Int))))] [qk h70, qk h76] aE fun f83 h83_ => (aB (aM (h83_.at 74) (fun h84p => ?_) (fun h84p => ?_)))
         ·refine wp_seq (aA (rn st53 4 h83_ [] [(2, .bool (decide (r.state = 4)))] [qb 0 rfl 6, .o] aE fun f86 h86_ => (aB ?_)))
          rcases nem (r.state = 4) with h87p | h87p
          ·have h87 := decide_eq_false h87p
           refine wr (aO Tryz.results97 ((h86_.at 2).trans (congrArg Value.bool h87)) ?_)
           exact ⟨(fB (by unfold dK; rw [cP (by rintro ⟨hz1, hz2, hz3, hz4, hz5, hz6⟩; omega)])), st53.bare⟩
          ·have h87 := decide_eq_true h87p
           refine wr (aO Tryz.results97 ((h86_.at 2).trans (congrArg Value.bool h87)) ?_)
           exact ⟨(fB (by unfold dK; rw [gI ⟨by omega, by omega, by omega, hTk, by omega, by omega⟩])), st53.bare⟩
         ·refine wp_skip (wp_seq (aA ?_))
          rcases nem (r.state = 1) with h89p | h89p
          ·have h89 := decide_eq_false h89p
           refine rn st53 12 h83_ [] [(2, .bool false)] [qb 0 rfl 6, qk h89] aE fun f90 h90_ => (aB (wr (aO Tryz.results97 (h90_.at 2) ?_)))
           exact ⟨(fB (by unfold dK; rw [cP (by rintro ⟨hz1, hz2, hz3, hz4, hz5, hz6⟩; omega)])), st53.bare⟩
          ·have h89 := decide_eq_true h89p
           refine rn st53 12 h83_ [] [(2, .bool (decide (((bF r.tasks 6).length : Int) = 0)))] [qb 0 rfl 6, qk h89, qk h70, .o] aE fun f91 h91_ => (aB ?_)
           rcases nem (((bF r.tasks 6).length : Int) = 0) with h92p | h92p
           ·have h92 := decide_eq_false h92p
            refine wr (aO Tryz.results97 ((h91_.at 2).trans (congrArg Value.bool h92)) ?_)
            exact ⟨(fB (by unfold dK; rw [cP (by rintro ⟨hz1, hz2, hz3, hz4, hz5, hz6⟩; omega)])), st53.bare⟩
           ·have h92 := decide_eq_true h92p
            refine wr (aO Tryz.results97 ((h91_.at 2).trans (congrArg Value.bool h92)) ?_)
            exact ⟨(fB (by unfold dK; rw [gI ⟨by omega, by omega, by omega, hTk, by omega, by omega⟩])), st53.bare⟩
      ·have h67 := decide_eq_true h67p
       refine rn st53 6 h61_ [] [(65, .bool (decide (((((bF r.tasks 4).length : Int) + ((bF r.tasks 5).length : Int)) + ((bF r.tasks 6).length : Int)) = (r.tasks.length : Int))))] [qk h67] aE fun f93 h93_ => (aB (aM (h93_.at 65) (fun h94p => ?_) (fun h94p => ?_)))
       ·have h94 := decide_eq_true h94p
        refine wp_seq (aA (rn st53 4 h93_ [] [(2, .bool (decide (r.state = 3)))] [qb 0 rfl 6, .o] aE fun f96 h96_ => (aB ?_)))
        rcases nem (r.state = 3) with h97p | h97p
        ·have h97 := decide_eq_false h97p
         refine wr (aO Tryz.results97 ((h96_.at 2).trans (congrArg Value.bool h97)) ?_)
         exact ⟨(fB (by unfold dK; rw [cP (by rintro ⟨hz1, hz2, hz3, hz4, hz5, hz6⟩; omega)])), st53.bare⟩
        ·have h97 := decide_eq_true h97p
         refine wr (aO Tryz.results97 ((h96_.at 2).trans (congrArg Value.bool h97)) ?_)
         exact ⟨(fB (by unfold dK; rw [gI ⟨by omega, by omega, by omega, hTk, by omega, by omega⟩])), st53.bare⟩
       ·have h94 := decide_eq_false h94p
        refine wp_seq (aA ?_)
        rcases nem (((bF r.tasks 5).length : Int) = 0) with h99p | h99p
        ·have h99 := decide_eq_false h99p
         refine rn st53 10 h93_ [] [(74, .bool false)] [qk h99] aE fun f100 h100_ => (aB (gQ (h100_.at 74) rfl (wp_skip (wp_seq (aA ?_)))))
         rcases nem (r.state = 1) with h102p | h102p
         ·have h102 := decide_eq_false h102p
          refine rn st53 12 h100_ [] [(2, .bool false)] [qb 0 rfl 6, qk h102] aE fun f103 h103_ => (aB (wr (aO Tryz.results97 (h103_.at 2) ?_)))
          exact ⟨(fB (by unfold dK; rw [cP (by rintro ⟨hz1, hz2, hz3, hz4, hz5, hz6⟩; omega)])), st53.bare⟩
         ·have h102 := decide_eq_true h102p
          refine rn st53 12 h100_ [] [(2, .bool false)] [qb 0 rfl 6, qk h102, qk h99] aE fun f104 h104_ => (aB (wr (aO Tryz.results97 (h104_.at 2) ?_)))
          exact ⟨(fB (by unfold dK; rw [cP (by rintro ⟨hz1, hz2, hz3, hz4, hz5, hz6⟩; omega)])), st53.bare⟩
        ·have h99 := decide_eq_true h99p
         rcases nem (0 < ((bF r.tasks 6).length : Int)) with h105p | h105p
         ·have h105 := decide_eq_false h105p
          refine rn st53 10 h93_ [] [(74, .bool false)] [qk h99, qk h105] aE fun f106 h106_ => (aB (gQ (h106_.at 74) rfl (wp_skip (wp_seq (aA ?_)))))
          rcases nem (r.state = 1) with h108p | h108p
          ·have h108 := decide_eq_false h108p
           refine rn st53 12 h106_ [] [(2, .bool false)] [qb 0 rfl 6, qk h108] aE fun f109 h109_ => (aB (wr (aO Tryz.results97 (h109_.at 2) ?_)))
           exact ⟨(fB (by unfold dK; rw [cP (by rintro ⟨hz1, hz2, hz3, hz4, hz5, hz6⟩; omega)])), st53.bare⟩
          ·have h108 := decide_eq_true h108p
           refine rn st53 12 h106_ [] [(2, .bool (decide (((bF r.tasks 6).length : Int) = 0)))] [qb 0 rfl 6, qk h108, qk h99, .o] aE fun f110 h110_ => (aB ?_)
           rcases nem (((bF r.tasks 6).length : Int) = 0) with h111p | h111p
           ·have h111 := decide_eq_false h111p
            refine wr (aO Tryz.results97 ((h110_.at 2).trans (congrArg Value.bool h111)) ?_)
            exact ⟨(fB (by unfold dK; rw [cP (by rintro ⟨hz1, hz2, hz3, hz4, hz5, hz6⟩; omega)])), st53.bare⟩
           ·have h111 := decide_eq_true h111p
            refine wr (aO Tryz.results97 ((h110_.at 2).trans (congrArg Value.bool h111)) ?_)
            exact ⟨(fB (by unfold dK; rw [gI ⟨by omega, by omega, by omega, hTk, by omega, by omega⟩])), st53.bare⟩
         ·have h105 := decide_eq_true h105p
          refine rn st53 10 (h93_.kn 7 h94) [] [(74, .bool false)] [qk h99, qk h105] aE fun f112 h112_ => (aB (gQ (h112_.at 74) rfl (wp_skip (wp_seq (aA ?_)))))
          rcases nem (r.state = 1) with h114p | h114p
          ·have h114 := decide_eq_false h114p
           refine rn st53 12 h112_ [] [(2, .bool false)] [qb 0 rfl 6, qk h114] aE fun f115 h115_ => (aB (wr (aO Tryz.results97 (h115_.at 2) ?_)))
           exact ⟨(fB (by unfold dK; rw [cP (by rintro ⟨hz1, hz2, hz3, hz4, hz5, hz6⟩; omega)])), st53.bare⟩
          ·have h114 := decide_eq_true h114p
           refine rn st53 12 h112_ [] [(2, .bool (decide (((bF r.tasks 6).length : Int) = 0)))] [qb 0 rfl 6, qk h114, qk h99, .o] aE fun f116 h116_ => (aB ?_)
           rcases nem (((bF r.tasks 6).length : Int) = 0) with h117p | h117p
           ·have h117 := decide_eq_false h117p
            refine wr (aO Tryz.results97 ((h116_.at 2).trans (congrArg Value.bool h117)) ?_)
            exact ⟨(fB (by unfold dK; rw [cP (by rintro ⟨hz1, hz2, hz3, hz4, hz5, hz6⟩; omega)])), st53.bare⟩
           ·have h117 := decide_eq_true h117p
            refine wr (aO Tryz.results97 ((h116_.at 2).trans (congrArg Value.bool h117)) ?_)
            exact ⟨(fB (by unfold dK; rw [gI ⟨by omega, by omega, by omega, hTk, by omega, by omega⟩])), st53.bare⟩
  ·have h11 := iF h11p
   refine rc st4 19 Ag.nil.put.put.put [] [(26, .bool true)] [qb 0 rfl 0, qc Tryz.func47 rfl (fun W s b => bW W r.id 1 9999), qk h10, qb 0 rfl 1, qc Tryz.func160 rfl (fun W s b => mU W (show Shape.C _ [I r.plan.prio, I r.plan.most, I r.plan.wait, I r.plan.tasks, v9_0] r.plan _ from ⟨_, _, rfl, eT, (h9_0.below s.below), rfl⟩)), qk h11] aE fun f118 W119 h118_ st120 hb121 => (aB (fA (h118_.at 26) rfl (wp_seq (aA (sg (aC (v := .bool false) rfl (aB (wr (aO Tryz.results97 rfl ?_)))))))))
   exact ⟨(fB (by unfold dK; rw [cP (by rintro ⟨hz1, hz2, hz3, hz4, hz5, hz6⟩; omega)])), st120.bare⟩
 ·have h10p := cH (aX h10)
  refine rc st4 19 Ag.nil.put.put.put [] [(26, .bool true)] [qb 0 rfl 0, qc Tryz.func47 rfl (fun W s b => bW W r.id 1 9999), qk h10] aE fun f124 W125 h124_ st126 hb127 => (aB (fA (h124_.at 26) rfl (wp_seq (aA (sg (aC (v := .bool false) rfl (aB (wr (aO Tryz.results97 rfl ?_)))))))))
  exact ⟨(fB (by unfold dK; rw [cP (by rintro ⟨hz1, hz2, hz3, hz4, hz5, hz6⟩; omega)])), st126.bare⟩
theorem TaskOkS (w : World) {r : Run} {cs : List Value} {fp : List Nat} (hc : Shape.C w cs r fp) {k : Nat} (hk : k < r.tasks.length) (hlen : (r.tasks.length : Int) = r.plan.tasks) (hP : cX r.plan = 0) (hs : 1 ≤ (r.tasks[k]'hk).state ∧ (r.tasks[k]'hk).state ≤ 6) :
  Calls Tryz.prog 156 #[.agg cs.toArray, I (k : Int)] w fun e w' => e = .returned (.bool (pB (bN r (iM r (k : Int)) (r.tasks[k]'hk)))) ∧ St w w' [] := by
 have hcap : r.tasks.length ≤ 9223372036854775807 := by have h0 := hc; obtain ⟨v1, v2, f1, f2, h0, hok, h1, h2, hfp⟩ := h0; exact h2.len_le
 refine bX Tryz.func156 rfl Tryz.ntmps156 aW (wp_seq (aA (sg (aJ (cs := cs) rfl (St.start w) ?_)))); intro b1 W2 hb3 st4
 refine sg (aC (v := .bool false) rfl (aB (wp_seq (aA ?_))))
 have hk9 := hc
 obtain ⟨v9_0, v9_1, g9_0, g9_1, rfl, hok9, h9_0, h9_1, rfl⟩ := hk9
 have hif4d94 : k < r.tasks.length := aD
 have hq_ := idx h9_1 (i := k) hif4d94
 obtain ⟨b10, o10, cs10, f10, hp10, hr10, hc10, hm10⟩ := hq_
 refine rn st4 5 Ag.nil.put.put.put.put [] [(13, .agg cs10.toArray)] [qb 0 rfl 7, qx hp10, qrw hr10 (Shape.len hc10)] aE fun f11 h11_ => (sg (aP iW st4 ?_)); intro b12 W13 hb14 st15
 refine sg (aL (cs := cs10) hX hc10 rfl (h11_.at 13) st15 rfl ?_); intro W17 st18
 refine aB (wp_seq (aA (sg (aC (v := I 0) rfl (aB (wp_seq (aA (rn st18 3 h11_.put.put [] [(15, .agg #[I r.plan.prio, I r.plan.most, I r.plan.wait, I r.plan.tasks, v9_0]), (16, I (k : Int))] [qb 1 rfl 1] aE fun f22 h22_ => ?_))))))))
 have hq_ := lU hP
 obtain ⟨hM, hE, _, _⟩ := hq_
 have hMb := pM hM
 have hbeq : cE r.plan (k : Int) = (cK (cV r.plan.edges (k : Int))) := by unfold cE; rw [if_pos hP]
 have hbl := kY r.plan (k : Int)
 rw [hbeq] at hbl
 refine sg (bU Tryz.func214 rfl (h22_.at 15) (h22_.at 16) ((BeforeE W17 (show Shape.C _ [I r.plan.prio, I r.plan.most, I r.plan.wait, I r.plan.tasks, v9_0] r.plan _ from ⟨_, _, rfl, eT, (h9_0.below st18.below), rfl⟩) (k : Int) aD aD hE).mono ?_)); rintro _ W25 ⟨v23, fp23, rfl, hk26⟩; refine ⟨_, rfl, ?_⟩
 have st27 := St.call st18 hk26
 refine sg (aC (v := v23) rfl (aB (wp_seq (wp_seq (aA (sg (aC (v := I 0) rfl (aB (wp_block (aZ (fun (m : Nat) (f : Nat → Value) (W : World) => ∃ (i : Nat), i ≤ (cK (cV r.plan.edges (k : Int))).length ∧ m = (cK (cV r.plan.edges (k : Int))).length - i ∧ Ag [(2, .pointer (some ⟨b1, 0, none⟩)), (5, .pointer (some ⟨b12, 0, none⟩)), (6, I (dU r ((cK (cV r.plan.edges (k : Int))).take i))), (7, v23), (8, I (i : Int))] f ∧ St w W ([Res.own (α := List Int) v23 (cK (cV r.plan.edges (k : Int))) fp23, Res.bx b12 cs10 140, Res.bx b1 [I r.id, I r.plan.prio, I r.plan.most, I r.plan.wait, I r.plan.tasks, v9_0, I r.state, v9_1] 123])) ((cK (cV r.plan.edges (k : Int))).length - 0) ?_ ?_))))))))))
 ·exact ⟨0, aD, rfl, (h22_.put.put.put.to aE), st27⟩
 intro m33 f34 W35 hJ36
 obtain ⟨i, hi, rfl, hA38, st37⟩ := hJ36
 have hnr := pF r ((cK (cV r.plan.edges (k : Int))).take i)
 have htl := List.length_take_le i (cK (cV r.plan.edges (k : Int)))
 refine wp_seq (wp_seq (aA (rn st37 4 hA38 [] [(21, .bool (decide ((i : Int) < ((cK (cV r.plan.edges (k : Int))).length : Int))))] [ql (aI (st37.get 0 rfl)), .o] aE fun f40 h40_ => (aB (aM (h40_.at 21) (fun h41p => ?_) (fun h41p => ?_))))))
 ·refine wp_skip (wp_seq (wp_block (wp_seq ?_)))
  have hbr := uQ r.plan (k : Int)
  rw [hbeq] at hbr
  have hbr := hbr _ (List.getElem_mem (l := (cK (cV r.plan.edges (k : Int)))) (n := i) aD)
  have hi26b77 : i < (cK (cV r.plan.edges (k : Int))).length := aD
  have hq_ := idx (aI (st37.get 0 rfl)) (i := i) hi26b77
  obtain ⟨b43, o43, cs43, f43, hp43, hr43, hc43, hm43⟩ := hq_
  have hk43 := hc43
  obtain ⟨rfl, rfl, hok43⟩ := hk43
  have hib59be : (((cK (cV r.plan.edges (k : Int)))[i]'hi26b77)).toNat < r.tasks.length := aD
  have hq_ := idx h9_1 (i := (((cK (cV r.plan.edges (k : Int)))[i]'hi26b77)).toNat) hib59be
  obtain ⟨b44, o44, cs44, f44, hp44, hr44, hc44, hm44⟩ := hq_
  have hk45 := hc44
  obtain ⟨he45, rfl, hok45⟩ := hk45
  have he45 : _ = [I (r.tasks[(((cK (cV r.plan.edges (k : Int)))[i]'hi26b77)).toNat]'hib59be).state, I (r.tasks[(((cK (cV r.plan.edges (k : Int)))[i]'hi26b77)).toNat]'hib59be).need, I (r.tasks[(((cK (cV r.plan.edges (k : Int)))[i]'hi26b77)).toNat]'hib59be).try_, I (r.tasks[(((cK (cV r.plan.edges (k : Int)))[i]'hi26b77)).toNat]'hib59be).until_] := he45
  subst he45
  refine rd st37 h40_ [] [(33, .bool (!decide ((r.tasks[(((cK (cV r.plan.edges (k : Int)))[i]'hi26b77)).toNat]'hib59be).state = 4)))] [qb 2 rfl 7, qx hp43, qn hr43 0, qxe hp44 (e := ((cK (cV r.plan.edges (k : Int)))[i]'hi26b77)) aD, qr hr44 0, .o] aE aE fun f46 W47 h46_ st48 hb49 => (dF (h46_.at 33) (fun h50p => ?_) (fun h50p => ?_))
  ·refine aA (rn st48 3 h46_ [6] [(6, I ((dU r ((cK (cV r.plan.edges (k : Int))).take i)) + 1))] [qad (dU r ((cK (cV r.plan.edges (k : Int))).take i)) 1] aE fun f52 h52_ => (aB (aA (rn st48 3 h52_ [8] [(8, I ((i : Int) + 1))] [qad (i : Int) 1] aE fun f54 h54_ => (aB ?_)))))
   exact ⟨_, (cK (cV r.plan.edges (k : Int))).length - (i + 1), aD, rfl, i + 1, aD, rfl, (Ag.cons (h54_.at 2) (Ag.cons (h54_.at 5) (Ag.cons (Eq.trans (show _ = I ((dU r ((cK (cV r.plan.edges (k : Int))).take i)) + 1) from (h54_.at 6)) (congrArg I (by rw [lG aD, oI aD]; simp only [h50p, decide_true, decide_false, Bool.false_eq_true, if_true, if_false]; try omega))) (Ag.cons (h54_.at 7) (Ag.cons (h54_.at 8) Ag.nil))))), st48⟩
  ·refine wp_skip (aA (rn st48 3 h46_ [8] [(8, I ((i : Int) + 1))] [qad (i : Int) 1] aE fun f56 h56_ => (aB ?_)))
   exact ⟨_, (cK (cV r.plan.edges (k : Int))).length - (i + 1), aD, rfl, i + 1, aD, rfl, (Ag.cons (h56_.at 2) (Ag.cons (h56_.at 5) (Ag.cons (Eq.trans (show _ = I (dU r ((cK (cV r.plan.edges (k : Int))).take i)) from (h56_.at 6)) (congrArg I (by rw [lG aD, oI aD]; simp only [h50p, decide_true, decide_false, Bool.false_eq_true, if_true, if_false]; try omega))) (Ag.cons (h56_.at 7) (Ag.cons (h56_.at 8) Ag.nil))))), st48⟩
 ·refine wp_exit (wp_seq (wp_seq (aA ?_)))
  have hneed : iM r (k : Int) = dU r ((cK (cV r.plan.edges (k : Int))).take i) := by unfold iM; rw [hbeq, show i = (cK (cV r.plan.edges (k : Int))).length by omega, List.take_length]
  have hk58 := hc10
  obtain ⟨he58, rfl, hok58⟩ := hk58
  have he58 : _ = [I (r.tasks[k]'hif4d94).state, I (r.tasks[k]'hif4d94).need, I (r.tasks[k]'hif4d94).try_, I (r.tasks[k]'hif4d94).until_] := he58
  subst he58
  rcases Decidable.em ((r.tasks[k]'hif4d94).need = (dU r ((cK (cV r.plan.edges (k : Int))).take i))) with h59p | h59p
  ·have h59 := iG h59p
   refine rc st37 13 h40_ [] [(48, .bool (!(inB (r.tasks[k]'hif4d94).try_ 0 r.plan.most)))] [qb 1 rfl 1, qk h59, qb 1 rfl 2, qb 2 rfl 2, qc (args := [I (r.tasks[k]'hif4d94).try_, I 0, I r.plan.most]) (v := .bool (inB (r.tasks[k]'hif4d94).try_ 0 r.plan.most)) Tryz.func43 rfl (fun W s b => cI W (r.tasks[k]'hif4d94).try_ 0 r.plan.most), .o] aE fun f60 W61 h60_ st62 hb63 => (aB (cM (h60_.at 48) (fun h64 => ?_) (fun h64 => ?_)))
   ·have h64p := cH (aX h64)
    refine wp_seq (aA (sg (aC (v := .bool false) rfl (aB (wr (aO Tryz.results156 rfl ?_))))))
    exact ⟨(fB (by rw [cP (by unfold bN; omega)])), st62.bare⟩
   ·have h64p := inB_iff'.1 (bB h64)
    refine wp_skip (wp_seq (wp_seq (aA ?_)))
    rcases nem ((r.tasks[k]'hif4d94).state = 3) with h68p | h68p
    ·have h68 := decide_eq_false h68p
     refine rn st62 19 h60_ [] [(67, .bool (!decide ((r.tasks[k]'hif4d94).until_ = 0)))] [qb 1 rfl 0, qk h68, qb 1 rfl 0, qk (congrArg not h68), qb 1 rfl 3, .o] aE fun f69 h69_ => (aB (dF (h69_.at 67) (fun h70p => ?_) (fun h70p => ?_)))
     ·refine wp_seq (aA (sg (aC (v := .bool false) rfl (aB (wr (aO Tryz.results156 rfl ?_))))))
      exact ⟨(fB (by rw [cP (by unfold bN; omega)])), st62.bare⟩
     ·refine wp_skip (wp_seq (wp_seq (aA (sg (aH iA (h69_.at 5) (sg (aU eA rfl rfl (st62.get 1 rfl) (i := 0) rfl rfl (aB (wp_block (wp_seq (aA (sg (dI rfl rfl (sg (aC (v := .bool (decide ((r.tasks[k]'hif4d94).state = 1))) rfl ?_)))))))))))))))
      refine aB (aM rfl (fun h77p => ?_) (fun h77p => ?_))
      ·refine wp_seq (aA (rn st62 3 h69_.put.put.put.put [] [(4, .bool (decide (0 < (dU r ((cK (cV r.plan.edges (k : Int))).take i)))))] [.o] aE fun f79 h79_ => (aB ?_)))
       rcases nem (0 < (dU r ((cK (cV r.plan.edges (k : Int))).take i))) with h80p | h80p
       ·have h80 := decide_eq_false h80p
        refine wr (aO Tryz.results156 ((h79_.at 4).trans (congrArg Value.bool h80)) ?_)
        exact ⟨(fB (by rw [cP (by unfold bN; omega)])), st62.bare⟩
       ·have h80 := decide_eq_true h80p
        refine wr (aO Tryz.results156 ((h79_.at 4).trans (congrArg Value.bool h80)) ?_)
        exact ⟨(fB (by rw [gI (by unfold bN; omega)])), st62.bare⟩
      ·refine wp_seq (aA (sg (dI rfl rfl (sg (aC (v := .bool (decide ((r.tasks[k]'hif4d94).state = 2))) rfl (aB (aM rfl (fun h83p => ?_) (fun h83p => ?_))))))))
       ·refine wp_seq (aA ?_)
        rcases nem ((dU r ((cK (cV r.plan.edges (k : Int))).take i)) = 0) with h85p | h85p
        ·have h85 := decide_eq_false h85p
         refine rn st62 11 h69_.put.put.put.put.put.put [] [(4, .bool false)] [qk h85] aE fun f86 h86_ => (aB (wr (aO Tryz.results156 (h86_.at 4) ?_)))
         exact ⟨(fB (by rw [cP (by unfold bN; omega)])), st62.bare⟩
        ·have h85 := decide_eq_true h85p
         refine rn st62 11 h69_.put.put.put.put.put.put [] [(4, .bool (decide ((r.tasks[k]'hif4d94).try_ < r.plan.most)))] [qk h85, qb 1 rfl 2, qb 2 rfl 2, .o] aE fun f87 h87_ => (aB ?_)
         rcases nem ((r.tasks[k]'hif4d94).try_ < r.plan.most) with h88p | h88p
         ·have h88 := decide_eq_false h88p
          refine wr (aO Tryz.results156 ((h87_.at 4).trans (congrArg Value.bool h88)) ?_)
          exact ⟨(fB (by rw [cP (by unfold bN; omega)])), st62.bare⟩
         ·have h88 := decide_eq_true h88p
          refine wr (aO Tryz.results156 ((h87_.at 4).trans (congrArg Value.bool h88)) ?_)
          exact ⟨(fB (by rw [gI (by unfold bN; omega)])), st62.bare⟩
       ·refine wp_seq (wp_seq (aA (sg (dI rfl rfl (sg (aC (v := .bool (decide ((r.tasks[k]'hif4d94).state = 3))) rfl (aB (gQ rfl h68 (wp_seq (aA (sg (dI rfl rfl (sg (aC (v := .bool (decide ((r.tasks[k]'hif4d94).state = 4))) rfl (aB ?_)))))))))))))))
        refine aM rfl (fun h93p => ?_) (fun h93p => ?_)
        ·have h93 := decide_eq_true h93p
         refine wp_skip (fA rfl h93 (wp_seq (aA ?_)))
         rcases nem ((dU r ((cK (cV r.plan.edges (k : Int))).take i)) = 0) with h95p | h95p
         ·have h95 := decide_eq_false h95p
          refine lw h69_.put.put.put.put.put.put.put.put.put.put [(6, I (dU r ((cK (cV r.plan.edges (k : Int))).take i)))] aE fun h97_ => (rn st62 8 h97_ [] [(4, .bool false)] [qk h95] aE fun f96 h96_ => (aB (wr (aO Tryz.results156 (h96_.at 4) ?_))))
          exact ⟨(fB (by rw [cP (by unfold bN; omega)])), st62.bare⟩
         ·have h95 := decide_eq_true h95p
          refine lw h69_.put.put.put.put.put.put.put.put.put.put [(5, .pointer (some ⟨b12, 0, none⟩)), (6, I (dU r ((cK (cV r.plan.edges (k : Int))).take i)))] aE fun h99_ => (rn st62 8 h99_ [] [(4, .bool (decide (1 ≤ (r.tasks[k]'hif4d94).try_)))] [qk h95, qb 1 rfl 2, .o] aE fun f98 h98_ => (aB ?_))
          rcases nem (1 ≤ (r.tasks[k]'hif4d94).try_) with h100p | h100p
          ·have h100 := decide_eq_false h100p
           refine wr (aO Tryz.results156 ((h98_.at 4).trans (congrArg Value.bool h100)) ?_)
           exact ⟨(fB (by rw [cP (by unfold bN; omega)])), st62.bare⟩
          ·have h100 := decide_eq_true h100p
           refine wr (aO Tryz.results156 ((h98_.at 4).trans (congrArg Value.bool h100)) ?_)
           exact ⟨(fB (by rw [gI (by unfold bN; omega)])), st62.bare⟩
        ·have h93 := decide_eq_false h93p
         refine aA (sg (dI rfl rfl (sg (aC (v := .bool (decide ((r.tasks[k]'hif4d94).state = 5))) rfl (aB (aM rfl (fun h103p => ?_) (fun h103p => ?_)))))))
         ·refine wp_seq (aA ?_)
          rcases nem ((dU r ((cK (cV r.plan.edges (k : Int))).take i)) = 0) with h105p | h105p
          ·have h105 := decide_eq_false h105p
           refine lw h69_.put.put.put.put.put.put.put.put.put.put.put.put [(6, I (dU r ((cK (cV r.plan.edges (k : Int))).take i)))] aE fun h107_ => (rn st62 8 h107_ [] [(4, .bool false)] [qk h105] aE fun f106 h106_ => (aB (wr (aO Tryz.results156 (h106_.at 4) ?_))))
           exact ⟨(fB (by rw [cP (by unfold bN; omega)])), st62.bare⟩
          ·have h105 := decide_eq_true h105p
           refine lw h69_.put.put.put.put.put.put.put.put.put.put.put.put [(5, .pointer (some ⟨b12, 0, none⟩)), (6, I (dU r ((cK (cV r.plan.edges (k : Int))).take i)))] aE fun h109_ => (rn st62 8 h109_ [] [(4, .bool (decide (1 ≤ (r.tasks[k]'hif4d94).try_)))] [qk h105, qb 1 rfl 2, .o] aE fun f108 h108_ => (aB ?_))
           rcases nem (1 ≤ (r.tasks[k]'hif4d94).try_) with h110p | h110p
           ·have h110 := decide_eq_false h110p
            refine wr (aO Tryz.results156 ((h108_.at 4).trans (congrArg Value.bool h110)) ?_)
            exact ⟨(fB (by rw [cP (by unfold bN; omega)])), st62.bare⟩
           ·have h110 := decide_eq_true h110p
            refine wr (aO Tryz.results156 ((h108_.at 4).trans (congrArg Value.bool h110)) ?_)
            exact ⟨(fB (by rw [gI (by unfold bN; omega)])), st62.bare⟩
         ·refine wp_skip (wp_seq (aA (lw h69_.put.put.put.put.put.put.put.put.put.put.put.put [(5, .pointer (some ⟨b12, 0, none⟩))] aE fun h113_ => (rn st62 4 h113_ [] [(4, .bool (decide ((r.tasks[k]'hif4d94).state = 6)))] [qb 1 rfl 0, .o] aE fun f112 h112_ => (aB ?_)))))
          rcases nem ((r.tasks[k]'hif4d94).state = 6) with h114p | h114p
          ·have h114 := decide_eq_false h114p
           refine wr (aO Tryz.results156 ((h112_.at 4).trans (congrArg Value.bool h114)) ?_)
           exact ⟨(fB (by rw [cP (by unfold bN; omega)])), st62.bare⟩
          ·have h114 := decide_eq_true h114p
           refine wr (aO Tryz.results156 ((h112_.at 4).trans (congrArg Value.bool h114)) ?_)
           exact ⟨(fB (by rw [gI (by unfold bN; omega)])), st62.bare⟩
    ·have h68 := decide_eq_true h68p
     rcases bd (!(inB (r.tasks[k]'hif4d94).until_ 1 1000000000)) with h115 | h115
     ·have h115p := inB_iff'.1 (bB h115)
      refine rc st62 19 h60_ [] [(67, .bool false)] [qb 1 rfl 0, qk h68, qb 1 rfl 3, qc (args := [I (r.tasks[k]'hif4d94).until_, I 1, I 1000000000]) (v := .bool (inB (r.tasks[k]'hif4d94).until_ 1 1000000000)) Tryz.func43 rfl (fun W s b => cI W (r.tasks[k]'hif4d94).until_ 1 1000000000), qk h115, qb 1 rfl 0, qk (congrArg not h68)] aE fun f116 W117 h116_ st118 hb119 => (aB (gQ (h116_.at 67) rfl (wp_skip (wp_seq (wp_seq (aA (sg (aH iA (h116_.at 5) (sg (aU eA rfl rfl (st118.get 1 rfl) (i := 0) rfl rfl (aB (wp_block (wp_seq ?_)))))))))))))
      refine aA (sg (dI rfl rfl (sg (aC (v := .bool (decide ((r.tasks[k]'hif4d94).state = 1))) rfl (aB (aM rfl (fun h124p => ?_) (fun h124p => ?_)))))))
      ·refine wp_seq (aA (rn st118 3 h116_.put.put.put.put [] [(4, .bool (decide (0 < (dU r ((cK (cV r.plan.edges (k : Int))).take i)))))] [.o] aE fun f126 h126_ => (aB ?_)))
       rcases nem (0 < (dU r ((cK (cV r.plan.edges (k : Int))).take i))) with h127p | h127p
       ·have h127 := decide_eq_false h127p
        refine wr (aO Tryz.results156 ((h126_.at 4).trans (congrArg Value.bool h127)) ?_)
        exact ⟨(fB (by rw [cP (by unfold bN; omega)])), st118.bare⟩
       ·have h127 := decide_eq_true h127p
        refine wr (aO Tryz.results156 ((h126_.at 4).trans (congrArg Value.bool h127)) ?_)
        exact ⟨(fB (by rw [gI (by unfold bN; omega)])), st118.bare⟩
      ·refine wp_seq (aA (sg (dI rfl rfl (sg (aC (v := .bool (decide ((r.tasks[k]'hif4d94).state = 2))) rfl (aB (aM rfl (fun h130p => ?_) (fun h130p => ?_))))))))
       ·refine wp_seq (aA ?_)
        rcases nem ((dU r ((cK (cV r.plan.edges (k : Int))).take i)) = 0) with h132p | h132p
        ·have h132 := decide_eq_false h132p
         refine rn st118 11 h116_.put.put.put.put.put.put [] [(4, .bool false)] [qk h132] aE fun f133 h133_ => (aB (wr (aO Tryz.results156 (h133_.at 4) ?_)))
         exact ⟨(fB (by rw [cP (by unfold bN; omega)])), st118.bare⟩
        ·have h132 := decide_eq_true h132p
         refine rn st118 11 h116_.put.put.put.put.put.put [] [(4, .bool (decide ((r.tasks[k]'hif4d94).try_ < r.plan.most)))] [qk h132, qb 1 rfl 2, qb 2 rfl 2, .o] aE fun f134 h134_ => (aB ?_)
         rcases nem ((r.tasks[k]'hif4d94).try_ < r.plan.most) with h135p | h135p
         ·have h135 := decide_eq_false h135p
          refine wr (aO Tryz.results156 ((h134_.at 4).trans (congrArg Value.bool h135)) ?_)
          exact ⟨(fB (by rw [cP (by unfold bN; omega)])), st118.bare⟩
         ·have h135 := decide_eq_true h135p
          refine wr (aO Tryz.results156 ((h134_.at 4).trans (congrArg Value.bool h135)) ?_)
          exact ⟨(fB (by rw [gI (by unfold bN; omega)])), st118.bare⟩
       ·refine wp_seq (wp_seq (aA (sg (dI rfl rfl (sg (aC (v := .bool (decide ((r.tasks[k]'hif4d94).state = 3))) rfl (aB (fA rfl h68 (wp_skip (fA rfl h68 (wp_seq (aA ?_))))))))))))
        rcases nem ((dU r ((cK (cV r.plan.edges (k : Int))).take i)) = 0) with h139p | h139p
        ·have h139 := decide_eq_false h139p
         refine rn st118 8 h116_.put.put.put.put.put.put.put.put [] [(4, .bool false)] [qk h139] aE fun f140 h140_ => (aB (wr (aO Tryz.results156 (h140_.at 4) ?_)))
         exact ⟨(fB (by rw [cP (by unfold bN; omega)])), st118.bare⟩
        ·have h139 := decide_eq_true h139p
         refine rn st118 8 h116_.put.put.put.put.put.put.put.put [] [(4, .bool (decide (1 ≤ (r.tasks[k]'hif4d94).try_)))] [qk h139, qb 1 rfl 2, .o] aE fun f141 h141_ => (aB ?_)
         rcases nem (1 ≤ (r.tasks[k]'hif4d94).try_) with h142p | h142p
         ·have h142 := decide_eq_false h142p
          refine wr (aO Tryz.results156 ((h141_.at 4).trans (congrArg Value.bool h142)) ?_)
          exact ⟨(fB (by rw [cP (by unfold bN; omega)])), st118.bare⟩
         ·have h142 := decide_eq_true h142p
          refine wr (aO Tryz.results156 ((h141_.at 4).trans (congrArg Value.bool h142)) ?_)
          exact ⟨(fB (by rw [gI (by unfold bN; omega)])), st118.bare⟩
     ·have h115p := cH (aX h115)
      refine rc st62 19 h60_ [] [(67, .bool true)] [qb 1 rfl 0, qk h68, qb 1 rfl 3, qc (args := [I (r.tasks[k]'hif4d94).until_, I 1, I 1000000000]) (v := .bool (inB (r.tasks[k]'hif4d94).until_ 1 1000000000)) Tryz.func43 rfl (fun W s b => cI W (r.tasks[k]'hif4d94).until_ 1 1000000000), qk h115] aE fun f143 W144 h143_ st145 hb146 => (aB (fA (h143_.at 67) rfl (wp_seq (aA (sg (aC (v := .bool false) rfl (aB (wr (aO Tryz.results156 rfl ?_)))))))))
      exact ⟨(fB (by rw [cP (by unfold bN; omega)])), st145.bare⟩
  ·have h59 := iF h59p
   refine rn st37 13 h40_ [] [(48, .bool true)] [qb 1 rfl 1, qk h59] aE fun f149 h149_ => (aB (fA (h149_.at 48) rfl (wp_seq (aA (sg (aC (v := .bool false) rfl (aB (wr (aO Tryz.results156 rfl ?_)))))))))
   exact ⟨(fB (by rw [cP (by unfold bN; omega)])), st37.bare⟩
theorem zB (w : World) {r : Run} {cs : List Value} {fp : List Nat} (hc : Shape.C w cs r fp) (hS : ∀ t ∈ r.tasks, 1 ≤ t.state ∧ t.state ≤ 6) (hl : r.tasks.length ≤ 1048576) :
  Calls Tryz.prog 157 #[.agg cs.toArray] w fun e w' => e = .returned (I (dN r.tasks)) ∧ St w w' [] := by
 have hcap : r.tasks.length ≤ 9223372036854775807 := by have h0 := hc; obtain ⟨v1, v2, f1, f2, h0, hok, h1, h2, hfp⟩ := h0; exact h2.len_le
 refine cO Tryz.func157 rfl Tryz.ntmps157 aW (wp_seq (aA (sg (aJ (cs := cs) rfl (St.start w) ?_)))); intro b1 W2 hb3 st4
 refine sg (aC (v := I 0) rfl (aB (wp_seq (aA (sg (aS (cs := [I 0, I 0, I 0, I 0, I 0, I 0, I 0]) (e := 3) (cU (v := I 0) rfl (cU (v := I 0) rfl (cU (v := I 0) rfl (cU (v := I 0) rfl (cU (v := I 0) rfl (cU (v := I 0) rfl (cU (v := I 0) rfl dM))))))) (run_buildSliceN cY _ rfl (mJ rfl (mJ rfl (mJ rfl (mJ rfl (mJ rfl (mJ rfl (mJ rfl lc_nil)))))))) st4 ?_)))))); intro b8 W9 hb10 st11
 refine sg (aC (v := .slice (some ⟨b8, 0, none⟩) 7 7) rfl (aB (wp_seq (wp_seq (aA (sg (aC (v := I 0) rfl (aB (wp_block ?_)))))))))
 have st17 := St.row_lit (α := Int) (ys := [0, 0, 0, 0, 0, 0, 0]) st11 rfl bM (Elems.ic dJ (Elems.ic dJ (Elems.ic dJ (Elems.ic dJ (Elems.ic dJ (Elems.ic dJ (Elems.ic dJ Elems.i0)))))))
 have hq_ := st17.shut
 obtain ⟨fp18, st19⟩ := hq_
 refine aZ (fun (m : Nat) (f : Nat → Value) (W : World) => ∃ (k : Nat) (fo20 : List Nat), k ≤ r.tasks.length ∧ m = r.tasks.length - k ∧ Ag [(1, .pointer (some ⟨b1, 0, none⟩)), (3, (.slice (some ⟨b8, 0, none⟩) 7 7)), (4, I (k : Int))] f ∧ St w W ([Res.own (α := List Int) (.slice (some ⟨b8, 0, none⟩) 7 7) (eP (r.tasks.take k)) fo20, Res.bx b1 cs 123])) (r.tasks.length - 0) ?_ ?_
 ·exact ⟨0, fp18, aD, rfl, (Ag.nil.put.put.put.put.put.put.to aE), (by rw [List.take_zero, cnts_nil]; exact st19)⟩
 intro m21 f22 W23 hJ24
 obtain ⟨k, fo20, hk, rfl, hA26, st25⟩ := hJ24
 refine wp_seq (wp_seq (aA ?_))
 have hk28 := hc
 obtain ⟨v28_0, v28_1, g28_0, g28_1, rfl, hok28, h28_0, h28_1, rfl⟩ := hk28
 refine rn st25 5 hA26 [] [(11, .bool (decide ((k : Int) < (r.tasks.length : Int))))] [qb 1 rfl 7, ql h28_1, .o] aE fun f29 h29_ => (aB (aM (h29_.at 11) (fun h30p => ?_) (fun h30p => ?_)))
 ·refine wp_skip (wp_seq (wp_block (aA ?_)))
  have hif4d94 : k < r.tasks.length := aD
  have hq_ := idx h28_1 (i := k) hif4d94
  obtain ⟨b32, o32, cs32, f32, hp32, hr32, hc32, hm32⟩ := hq_
  have hk33 := hc32
  obtain ⟨he33, rfl, hok33⟩ := hk33
  have he33 : _ = [I (r.tasks[k]'hif4d94).state, I (r.tasks[k]'hif4d94).need, I (r.tasks[k]'hif4d94).try_, I (r.tasks[k]'hif4d94).until_] := he33
  subst he33
  refine rn st25 7 h29_ [] [(14, (.slice (some ⟨b8, 0, none⟩) 7 7)), (20, I (r.tasks[k]'hif4d94).state)] [qb 1 rfl 7, qx hp32, qr hr32 0] aE fun f34 h34_ => ?_
  have hsk := hS _ (List.getElem_mem (l := r.tasks) (n := k) aD)
  have hcl := qP (r.tasks.take k)
  have htl := List.length_take_le k r.tasks
  have hi2be82 : ((r.tasks[k]'hif4d94).state).toNat < (eP (r.tasks.take k)).length := aD
  have hq_ := idx (aI (st25.get 0 rfl)) (i := ((r.tasks[k]'hif4d94).state).toNat) hi2be82
  obtain ⟨b35, o35, cs35, f35, hp35, hr35, hc35, hm35⟩ := hq_
  have hk35 := hc35
  obtain ⟨rfl, rfl, hok35⟩ := hk35
  refine sg (aN eQ (h34_.at 14) hp35 (h34_.at 20) aD ?_)
  have hcr := cnts_rng (r.tasks.take k) (r.tasks[k]'(by omega)).state.toNat aD
  refine rn st25 3 h34_.put [] [(23, I (((eP (r.tasks.take k))[((r.tasks[k]'hif4d94).state).toNat]'hi2be82) + 1)), (24, .pointer (some ⟨b35, o35, none⟩))] [qn hr35 0, qad ((eP (r.tasks.take k))[((r.tasks[k]'hif4d94).state).toNat]'hi2be82) 1, qxe hp35 (e := (r.tasks[k]'hif4d94).state) aD] aE fun f39 h39_ => (sg (rD (α := Int) (z := ((eP (r.tasks.take k))[((r.tasks[k]'hif4d94).state).toNat]'hi2be82) + 1) rfl aE (h39_.at 24) hp35 hi2be82 (h39_.at 23) rfl rfl st25 (fun W => ⟨rfl, rfl, dJ⟩) ?_)); intro fp40 W41 st42
  refine aB (aA (rn st42 3 h39_ [4] [(4, I ((k : Int) + 1))] [qad (k : Int) 1] aE fun f44 h44_ => (aB ?_)))
  exact ⟨_, r.tasks.length - (k + 1), aD, rfl, k + 1, fp40, aD, rfl, (h44_.to aE), (by rw [← cnts_set aD (hS _ (List.getElem_mem _)) (by rw [qP]; omega)]; exact st42)⟩
 ·refine wp_exit (wp_seq ?_)
  have hkl : k = r.tasks.length := by omega
  have hcl := qP (r.tasks.take k)
  have hso := oQ r.tasks
  have hk0 : r.tasks.take k = r.tasks := by rw [hkl, List.take_length]
  have hq1 : (eP (r.tasks.take k))[1]'(by omega) = cJ r.tasks 1 := (rS _ 1 _).trans (by rw [hk0]; rfl)
  have hq2 : (eP (r.tasks.take k))[2]'(by omega) = cJ r.tasks 2 := (rS _ 2 _).trans (by rw [hk0]; rfl)
  have hq3 : (eP (r.tasks.take k))[3]'(by omega) = cJ r.tasks 3 := (rS _ 3 _).trans (by rw [hk0]; rfl)
  have hq4 : (eP (r.tasks.take k))[4]'(by omega) = cJ r.tasks 4 := (rS _ 4 _).trans (by rw [hk0]; rfl)
  have hq5 : (eP (r.tasks.take k))[5]'(by omega) = cJ r.tasks 5 := (rS _ 5 _).trans (by rw [hk0]; rfl)
  have hq6 : (eP (r.tasks.take k))[6]'(by omega) = cJ r.tasks 6 := (rS _ 6 _).trans (by rw [hk0]; rfl)
  have hnn1 := dW r.tasks 1
  have hnn2 := dW r.tasks 2
  have hnn3 := dW r.tasks 3
  have hnn4 := dW r.tasks 4
  have hnn5 := dW r.tasks 5
  have hnn6 := dW r.tasks 6
  have hll1 := mP r.tasks 1
  have hll2 := mP r.tasks 2
  have hll3 := mP r.tasks 3
  have hll4 := mP r.tasks 4
  have hll5 := mP r.tasks 5
  have hll6 := mP r.tasks 6
  have hi25f68 : 1 < (eP (r.tasks.take k)).length := aD
  have hq_ := idx (aI (st25.get 0 rfl)) (i := 1) hi25f68
  obtain ⟨b46, o46, cs46, f46, hp46, hr46, hc46, hm46⟩ := hq_
  have hk46 := hc46
  obtain ⟨rfl, rfl, hok46⟩ := hk46
  have hi416b4 : 2 < (eP (r.tasks.take k)).length := aD
  have hq_ := idx (aI (st25.get 0 rfl)) (i := 2) hi416b4
  obtain ⟨b47, o47, cs47, f47, hp47, hr47, hc47, hm47⟩ := hq_
  have hk47 := hc47
  obtain ⟨rfl, rfl, hok47⟩ := hk47
  have hi98b8f : 3 < (eP (r.tasks.take k)).length := aD
  have hq_ := idx (aI (st25.get 0 rfl)) (i := 3) hi98b8f
  obtain ⟨b48, o48, cs48, f48, hp48, hr48, hc48, hm48⟩ := hq_
  have hk48 := hc48
  obtain ⟨rfl, rfl, hok48⟩ := hk48
  refine rd st25 h29_ [] [(5, I ((((eP (r.tasks.take k))[1]'hi25f68) + ((eP (r.tasks.take k))[2]'hi416b4)) + ((eP (r.tasks.take k))[3]'hi98b8f)))] [qx hp46, qn hr46 0, qx hp47, qn hr47 0, qad ((eP (r.tasks.take k))[1]'hi25f68) ((eP (r.tasks.take k))[2]'hi416b4), qx hp48, qn hr48 0, qad (((eP (r.tasks.take k))[1]'hi25f68) + ((eP (r.tasks.take k))[2]'hi416b4)) ((eP (r.tasks.take k))[3]'hi98b8f)] aE aE fun f49 W50 h49_ st51 hb52 => (wp_seq (wp_block (wp_seq ?_)))
  have hi7bb14 : 4 < (eP (r.tasks.take k)).length := aD
  have hq_ := idx (aI (st51.get 0 rfl)) (i := 4) hi7bb14
  obtain ⟨b54, o54, cs54, f54, hp54, hr54, hc54, hm54⟩ := hq_
  have hk54 := hc54
  obtain ⟨rfl, rfl, hok54⟩ := hk54
  refine rd st51 h49_ [] [(36, .bool (decide (((eP (r.tasks.take k))[4]'hi7bb14) = (r.tasks.length : Int))))] [qx hp54, qn hr54 0, qb 1 rfl 7, ql h28_1, .o] aE aE fun f55 W56 h55_ st57 hb58 => (aM (h55_.at 36) (fun h59p => ?_) (fun h59p => ?_))
  ·refine wp_seq (aA (sg (aC (v := I 2) rfl (aB (wr (aO Tryz.results157 rfl ?_))))))
   exact ⟨(fI aD), st57.bare⟩
  ·refine wp_seq (aA ?_)
   have hi9ea3c : 5 < (eP (r.tasks.take k)).length := aD
   have hq_ := idx (aI (st57.get 0 rfl)) (i := 5) hi9ea3c
   obtain ⟨b63, o63, cs63, f63, hp63, hr63, hc63, hm63⟩ := hq_
   have hk63 := hc63
   obtain ⟨rfl, rfl, hok63⟩ := hk63
   rcases nem (((eP (r.tasks.take k))[5]'hi9ea3c) = 1) with h64p | h64p
   ·have h64 := decide_eq_false h64p
    refine rn st57 9 h55_ [] [(44, .bool false)] [qx hp63, qn hr63 0, qk h64] aE fun f65 h65_ => (aB (gQ (h65_.at 44) rfl (wp_seq (aA ?_))))
    rcases nem (((eP (r.tasks.take k))[5]'hi9ea3c) = 0) with h67p | h67p
    ·have h67 := decide_eq_false h67p
     refine rn st57 15 h65_ [] [(53, .bool false)] [qx hp63, qn hr63 0, qk h67] aE fun f68 h68_ => (aB (gQ (h68_.at 53) rfl (wp_seq (aA (rn st57 11 h68_ [] [(68, .bool false)] [qx hp63, qn hr63 0, qk h67] aE fun f70 h70_ => (aB (gQ (h70_.at 68) rfl (wp_skip (wp_seq (aA (sg (aC (v := I 0) rfl ?_))))))))))))
     refine aB (wr (aO Tryz.results157 rfl ?_))
     exact ⟨(fI aD), st57.bare⟩
    ·have h67 := decide_eq_true h67p
     have hi05ed7 : 6 < (eP (r.tasks.take k)).length := aD
     have hq_ := idx (aI (st57.get 0 rfl)) (i := 6) hi05ed7
     obtain ⟨b73, o73, cs73, f73, hp73, hr73, hc73, hm73⟩ := hq_
     have hk73 := hc73
     obtain ⟨rfl, rfl, hok73⟩ := hk73
     rcases nem (0 < ((eP (r.tasks.take k))[6]'hi05ed7)) with h74p | h74p
     ·have h74 := decide_eq_false h74p
      refine rn st57 15 h65_ [] [(53, .bool false)] [qx hp63, qn hr63 0, qk h67, qx hp73, qn hr73 0, qk h74] aE fun f75 h75_ => (aB (gQ (h75_.at 53) rfl (wp_seq (aA (rn st57 11 h75_ [] [(68, .bool (decide (((eP (r.tasks.take k))[6]'hi05ed7) = 0)))] [qx hp63, qn hr63 0, qk h67, qx hp73, qn hr73 0, .o] aE fun f77 h77_ => (aB (aM (h77_.at 68) (fun h78p => ?_) (fun h78p => ?_))))))))
      ·refine wp_seq (aA (sg (aC (v := I 1) rfl (aB (wr (aO Tryz.results157 rfl ?_))))))
       exact ⟨(fI aD), st57.bare⟩
      ·refine wp_skip (wp_seq (aA (sg (aC (v := I 0) rfl (aB (wr (aO Tryz.results157 rfl ?_)))))))
       exact ⟨(fI aD), st57.bare⟩
     ·have h74 := decide_eq_true h74p
      refine rn st57 15 h65_ [] [(53, .bool (decide (((((eP (r.tasks.take k))[1]'hi25f68) + ((eP (r.tasks.take k))[2]'hi416b4)) + ((eP (r.tasks.take k))[3]'hi98b8f)) = 0)))] [qx hp63, qn hr63 0, qk h67, qx hp73, qn hr73 0, qk h74, .o] aE fun f83 h83_ => (aB (aM (h83_.at 53) (fun h84p => ?_) (fun h84p => ?_)))
      ·refine wp_seq (aA (sg (aC (v := I 4) rfl (aB (wr (aO Tryz.results157 rfl ?_))))))
       exact ⟨(fI aD), st57.bare⟩
      ·refine wp_seq (aA (rn st57 11 h83_ [] [(68, .bool (decide (((eP (r.tasks.take k))[6]'hi05ed7) = 0)))] [qx hp63, qn hr63 0, qk h67, qx hp73, qn hr73 0, .o] aE fun f88 h88_ => (aB (aM (h88_.at 68) (fun h89p => ?_) (fun h89p => ?_)))))
       ·refine wp_seq (aA (sg (aC (v := I 1) rfl (aB (wr (aO Tryz.results157 rfl ?_))))))
        exact ⟨(fI aD), st57.bare⟩
       ·refine wp_skip (wp_seq (aA (sg (aC (v := I 0) rfl (aB (wr (aO Tryz.results157 rfl ?_)))))))
        exact ⟨(fI aD), st57.bare⟩
   ·have h64 := decide_eq_true h64p
    refine rn st57 9 h55_ [] [(44, .bool (decide (((((eP (r.tasks.take k))[1]'hi25f68) + ((eP (r.tasks.take k))[2]'hi416b4)) + ((eP (r.tasks.take k))[3]'hi98b8f)) = 0)))] [qx hp63, qn hr63 0, qk h64, .o] aE fun f94 h94_ => (aB (aM (h94_.at 44) (fun h95p => ?_) (fun h95p => ?_)))
    ·have h95 := decide_eq_true h95p
     refine wp_seq (aA (sg (aC (v := I 3) rfl (aB (wr (aO Tryz.results157 rfl ?_))))))
     exact ⟨(fI aD), st57.bare⟩
    ·have h95 := decide_eq_false h95p
     refine wp_seq (aA ?_)
     rcases nem (((eP (r.tasks.take k))[5]'hi9ea3c) = 0) with h99p | h99p
     ·have h99 := decide_eq_false h99p
      refine rn st57 15 h94_ [] [(53, .bool false)] [qx hp63, qn hr63 0, qk h99] aE fun f100 h100_ => (aB (gQ (h100_.at 53) rfl (wp_seq (aA (rn st57 11 h100_ [] [(68, .bool false)] [qx hp63, qn hr63 0, qk h99] aE fun f102 h102_ => (aB (gQ (h102_.at 68) rfl (wp_skip (wp_seq (aA (sg (aC (v := I 0) rfl ?_))))))))))))
      refine aB (wr (aO Tryz.results157 rfl ?_))
      exact ⟨(fI aD), st57.bare⟩
     ·have h99 := decide_eq_true h99p
      have hi05ed7 : 6 < (eP (r.tasks.take k)).length := aD
      have hq_ := idx (aI (st57.get 0 rfl)) (i := 6) hi05ed7
      obtain ⟨b105, o105, cs105, f105, hp105, hr105, hc105, hm105⟩ := hq_
      have hk105 := hc105
      obtain ⟨rfl, rfl, hok105⟩ := hk105
      rcases nem (0 < ((eP (r.tasks.take k))[6]'hi05ed7)) with h106p | h106p
      ·have h106 := decide_eq_false h106p
       refine rn st57 15 h94_ [] [(53, .bool false)] [qx hp63, qn hr63 0, qk h99, qx hp105, qn hr105 0, qk h106] aE fun f107 h107_ => (aB (gQ (h107_.at 53) rfl (wp_seq (aA (rn st57 11 h107_ [] [(68, .bool (decide (((eP (r.tasks.take k))[6]'hi05ed7) = 0)))] [qx hp63, qn hr63 0, qk h99, qx hp105, qn hr105 0, .o] aE fun f109 h109_ => (aB (aM (h109_.at 68) (fun h110p => ?_) (fun h110p => ?_))))))))
       ·refine wp_seq (aA (sg (aC (v := I 1) rfl (aB (wr (aO Tryz.results157 rfl ?_))))))
        exact ⟨(fI aD), st57.bare⟩
       ·refine wp_skip (wp_seq (aA (sg (aC (v := I 0) rfl (aB (wr (aO Tryz.results157 rfl ?_)))))))
        exact ⟨(fI aD), st57.bare⟩
      ·have h106 := decide_eq_true h106p
       refine rn st57 15 h94_ [] [(53, .bool false)] [qx hp63, qn hr63 0, qk h99, qx hp105, qn hr105 0, qk h106, qk h95] aE fun f115 h115_ => (aB (gQ (h115_.at 53) rfl (wp_seq (aA (rn st57 11 h115_ [] [(68, .bool (decide (((eP (r.tasks.take k))[6]'hi05ed7) = 0)))] [qx hp63, qn hr63 0, qk h99, qx hp105, qn hr105 0, .o] aE fun f117 h117_ => (aB (aM (h117_.at 68) (fun h118p => ?_) (fun h118p => ?_))))))))
       ·refine wp_seq (aA (sg (aC (v := I 1) rfl (aB (wr (aO Tryz.results157 rfl ?_))))))
        exact ⟨(fI aD), st57.bare⟩
       ·refine wp_skip (wp_seq (aA (sg (aC (v := I 0) rfl (aB (wr (aO Tryz.results157 rfl ?_)))))))
        exact ⟨(fI aD), st57.bare⟩
theorem uS (w : World) {r : Run} {cs : List Value} {fp : List Nat} (hc : Shape.C w cs r fp) :
  Calls Tryz.prog 89 #[.agg cs.toArray] w fun e w' => e = .returned (.bool (dK r)) ∧ St w w' [] := by
 have hcap : r.tasks.length ≤ 9223372036854775807 := by have h0 := hc; obtain ⟨v1, v2, f1, f2, h0, hok, h1, h2, hfp⟩ := h0; exact h2.len_le
 refine cO Tryz.func89 rfl Tryz.ntmps89 aW (wp_seq (aA (sg (aJ (cs := cs) rfl (St.start w) ?_)))); intro b1 W2 hb3 st4
 refine sg (aC (v := .bool false) rfl (aB (wp_seq (wp_seq (aA ?_)))))
 have hk9 := hc
 obtain ⟨v9_0, v9_1, g9_0, g9_1, rfl, hok9, h9_0, h9_1, rfl⟩ := hk9
 rcases bd (!(inB r.id 1 9999)) with h10 | h10
 ·have h10p := inB_iff'.1 (bB h10)
  rcases Decidable.em ((cX r.plan) = 0) with h11p | h11p
  ·have h11 := iG h11p
   refine rc st4 19 Ag.nil.put.put.put [] [(23, .bool (!decide ((r.tasks.length : Int) = r.plan.tasks)))] [qb 0 rfl 0, qc Tryz.func43 rfl (fun W s b => cI W r.id 1 9999), qk h10, qb 0 rfl 1, qc Tryz.func155 rfl (fun W s b => uU W (show Shape.C _ [I r.plan.prio, I r.plan.most, I r.plan.wait, I r.plan.tasks, v9_0] r.plan _ from ⟨_, _, rfl, eT, (h9_0.below s.below), rfl⟩)), qk h11, qb 0 rfl 7, ql h9_1, qb 0 rfl 4, .o] aE fun f12 W13 h12_ st14 hb15 => (aB (dF (h12_.at 23) (fun h16p => ?_) (fun h16p => ?_)))
   ·refine wp_seq (aA (sg (aC (v := .bool false) rfl (aB (wr (aO Tryz.results89 rfl ?_))))))
    exact ⟨(fB (by unfold dK; rw [cP (by rintro ⟨hz1, hz2, hz3, hz4, hz5, hz6⟩; omega)])), st14.bare⟩
   ·refine wp_skip (wp_seq (wp_seq (aA ?_)))
    have hP : cX r.plan = 0 := by omega
    have hMb := pM (lU hP).1
    refine sg (aC (v := I 0) rfl (aB (wp_block (aZ (fun (m : Nat) (f : Nat → Value) (W : World) => ∃ (i : Nat), i ≤ r.tasks.length ∧ (∀ t ∈ r.tasks.take i, 1 ≤ t.state ∧ t.state ≤ 6) ∧ m = r.tasks.length - i ∧ Ag [(1, .pointer (some ⟨b1, 0, none⟩)), (3, I (i : Int))] f ∧ St w W ([Res.bx b1 [I r.id, I r.plan.prio, I r.plan.most, I r.plan.wait, I r.plan.tasks, v9_0, I r.state, v9_1] 123])) (r.tasks.length - 0) ?_ ?_))))
    ·exact ⟨0, aD, (by simp), rfl, (h12_.put.to aE), st14⟩
    intro m21 f22 W23 hJ24
    obtain ⟨i, hk, hSk, rfl, hA26, st25⟩ := hJ24
    refine wp_seq (wp_seq (aA (rn st25 5 hA26 [] [(28, .bool (decide ((i : Int) < (r.tasks.length : Int))))] [qb 0 rfl 7, ql h9_1, .o] aE fun f28 h28_ => (aB (aM (h28_.at 28) (fun h29p => ?_) (fun h29p => ?_))))))
    ·refine wp_skip (wp_seq (wp_block (wp_seq (aA ?_))))
     have hi4283f : i < r.tasks.length := aD
     have hq_ := idx h9_1 (i := i) hi4283f
     obtain ⟨b31, o31, cs31, f31, hp31, hr31, hc31, hm31⟩ := hq_
     have hk32 := hc31
     obtain ⟨he32, rfl, hok32⟩ := hk32
     have he32 : _ = [I (r.tasks[i]'hi4283f).state, I (r.tasks[i]'hi4283f).need, I (r.tasks[i]'hi4283f).try_, I (r.tasks[i]'hi4283f).until_] := he32
     subst he32
     refine rc st25 8 h28_ [] [(38, .bool (!(inB (r.tasks[i]'hi4283f).state 1 6)))] [qb 0 rfl 7, qx hp31, qr hr31 0, qc (args := [I (r.tasks[i]'hi4283f).state, I 1, I 6]) (v := .bool (inB (r.tasks[i]'hi4283f).state 1 6)) Tryz.func43 rfl (fun W s b => cI W (r.tasks[i]'hi4283f).state 1 6), .o] aE fun f33 W34 h33_ st35 hb36 => (aB (cM (h33_.at 38) (fun h37 => ?_) (fun h37 => ?_)))
     ·have h37p := cH (aX h37)
      refine wp_seq (aA (sg (aC (v := .bool false) rfl (aB (wr (aO Tryz.results89 rfl ?_))))))
      exact ⟨(fB (by unfold dK; rw [cP (fun hz => by have hz2 := (hz.2.2.2.1 i aD aD).1; omega)])), st35.bare⟩
     ·have h37p := inB_iff'.1 (bB h37)
      refine wp_skip (aA (sg (aG (v := I (i : Int)) (h33_.at 3) (sg (bQ rfl rfl dJ (sg (aC (v := I ((i : Int) + 1)) rfl (aB ?_))))))))
      exact ⟨_, r.tasks.length - (i + 1), aD, rfl, i + 1, aD, (fun t ht => by rw [List.take_succ_eq_append_getElem aD] at ht; rcases List.mem_append.1 ht with h1 | h1; exact hSk t h1; rw [List.mem_singleton] at h1; subst h1; omega), rfl, (h33_.put.put.put.to aE), st35⟩
    ·refine wp_exit (wp_seq (wp_seq (aA ?_)))
     have hS : ∀ t ∈ r.tasks, 1 ≤ t.state ∧ t.state ≤ 6 := by rw [show i = r.tasks.length by omega, List.take_length] at hSk; exact hSk
     refine sg (aC (v := I 0) rfl (aB (wp_block (aZ (fun (m : Nat) (f : Nat → Value) (W : World) => ∃ (k : Nat), k ≤ r.tasks.length ∧ (∀ j, j < k → lD r j) ∧ m = r.tasks.length - k ∧ Ag [(1, .pointer (some ⟨b1, 0, none⟩)), (4, I (k : Int))] f ∧ St w W ([Res.bx b1 [I r.id, I r.plan.prio, I r.plan.most, I r.plan.wait, I r.plan.tasks, v9_0, I r.state, v9_1] 123])) (r.tasks.length - 0) ?_ ?_))))
     ·exact ⟨0, aD, (fun j hj => absurd hj (Nat.not_lt_zero j)), rfl, (h28_.put.to aE), st25⟩
     intro m46 f47 W48 hJ49
     obtain ⟨k, hk, hT, rfl, hA51, st50⟩ := hJ49
     refine wp_seq (wp_seq (aA (rn st50 5 hA51 [] [(43, .bool (decide ((k : Int) < (r.tasks.length : Int))))] [qb 0 rfl 7, ql h9_1, .o] aE fun f53 h53_ => (aB (aM (h53_.at 43) (fun h54p => ?_) (fun h54p => ?_))))))
     ·refine wp_skip (wp_seq (wp_block (wp_seq (aA (rc st50 4 h53_ [] [(49, .bool (!(pB (bN r (iM r (k : Int)) (r.tasks[k]'(by omega))))))] [qb 0 rfl 0, qc (args := [.agg #[I r.id, I r.plan.prio, I r.plan.most, I r.plan.wait, I r.plan.tasks, v9_0, I r.state, v9_1], I (k : Int)]) (v := .bool (pB (bN r (iM r (k : Int)) (r.tasks[k]'(by omega))))) Tryz.func156 rfl (fun W s b => TaskOkS W (aV hc s.below) (k := k) aD aD aD (hS _ (List.getElem_mem _))), .o] aE fun f56 W57 h56_ st58 hb59 => (aB (cM (h56_.at 49) (fun h60 => ?_) (fun h60 => ?_))))))))
      ·refine wp_seq (aA (sg (aC (v := .bool false) rfl (aB (wr (aO Tryz.results89 rfl ?_))))))
       exact ⟨(fB (by unfold dK; rw [cP (fun hz => yW (aX h60) (hz.2.2.2.1 k aD aD))])), st58.bare⟩
      ·refine wp_skip (aA (sg (aG (v := I (k : Int)) (h56_.at 4) (sg (bQ rfl rfl dJ (sg (aC (v := I ((k : Int) + 1)) rfl (aB ?_))))))))
       exact ⟨_, r.tasks.length - (k + 1), aD, rfl, k + 1, aD, (fun j hj => by rcases Nat.lt_succ_iff_lt_or_eq.1 hj with h1 | rfl; exact hT j h1; exact fun _ => pB_iff.1 ((bB h60))), rfl, (h56_.put.put.put.to aE), st58⟩
     ·refine wp_exit (wp_seq ?_)
      rcases nem (r.state = (dN r.tasks)) with h68p | h68p
      ·have h68 := decide_eq_false h68p
       have hTk : ∀ j, j < r.tasks.length → lD r j := by rw [show k = r.tasks.length by omega] at hT; exact hT
       refine rd st50 h53_ [] [(2, .bool false)] [qb 0 rfl 6, qb 0 rfl 0, qc Tryz.func157 rfl (fun W s b => zB W (aV hc s.below) hS aD), qk h68] aE aE fun f70 W71 h70_ st72 hb73 => (wr (aO Tryz.results89 (h70_.at 2) ?_))
       exact ⟨(fB (by unfold dK; rw [cP (by rintro ⟨hz1, hz2, hz3, hz4, hz5, hz6⟩; omega)])), st72.bare⟩
      ·have h68 := decide_eq_true h68p
       have hTk : ∀ j, j < r.tasks.length → lD r j := by rw [show k = r.tasks.length by omega] at hT; exact hT
       refine rd st50 h53_ [] [(2, .bool (!decide (r.state = 0)))] [qb 0 rfl 6, qb 0 rfl 0, qc Tryz.func157 rfl (fun W s b => zB W (aV hc s.below) hS aD), qk h68, qb 0 rfl 6, .o] aE aE fun f75 W76 h75_ st77 hb78 => ?_
       rcases Decidable.em (r.state = 0) with h79p | h79p
       ·have h79 := iG h79p
        refine wr (aO Tryz.results89 ((h75_.at 2).trans (congrArg Value.bool h79)) ?_)
        exact ⟨(fB (by unfold dK; rw [cP (by rintro ⟨hz1, hz2, hz3, hz4, hz5, hz6⟩; omega)])), st77.bare⟩
       ·have h79 := iF h79p
        refine wr (aO Tryz.results89 ((h75_.at 2).trans (congrArg Value.bool h79)) ?_)
        exact ⟨(fB (by unfold dK; rw [gI ⟨by omega, by omega, by omega, hTk, by omega, by omega⟩])), st77.bare⟩
  ·have h11 := iF h11p
   refine rc st4 19 Ag.nil.put.put.put [] [(23, .bool true)] [qb 0 rfl 0, qc Tryz.func43 rfl (fun W s b => cI W r.id 1 9999), qk h10, qb 0 rfl 1, qc Tryz.func155 rfl (fun W s b => uU W (show Shape.C _ [I r.plan.prio, I r.plan.most, I r.plan.wait, I r.plan.tasks, v9_0] r.plan _ from ⟨_, _, rfl, eT, (h9_0.below s.below), rfl⟩)), qk h11] aE fun f80 W81 h80_ st82 hb83 => (aB (fA (h80_.at 23) rfl (wp_seq (aA (sg (aC (v := .bool false) rfl (aB (wr (aO Tryz.results89 rfl ?_)))))))))
   exact ⟨(fB (by unfold dK; rw [cP (by rintro ⟨hz1, hz2, hz3, hz4, hz5, hz6⟩; omega)])), st82.bare⟩
 ·have h10p := cH (aX h10)
  refine rc st4 19 Ag.nil.put.put.put [] [(23, .bool true)] [qb 0 rfl 0, qc Tryz.func43 rfl (fun W s b => cI W r.id 1 9999), qk h10] aE fun f86 W87 h86_ st88 hb89 => (aB (fA (h86_.at 23) rfl (wp_seq (aA (sg (aC (v := .bool false) rfl (aB (wr (aO Tryz.results89 rfl ?_)))))))))
  exact ⟨(fB (by unfold dK; rw [cP (by rintro ⟨hz1, hz2, hz3, hz4, hz5, hz6⟩; omega)])), st88.bare⟩
section
variable {α : Type} {f : α → Int → α} {n : α → Nat}
end
section
variable {α : Type} {f : α → Int → α} {n : α → Nat}
end
theorem fJ {α : Type} {xs : List α} {i : Nat} (h : i < xs.length) : ∃ y, xs[i]? = some y := ⟨_, List.getElem?_eq_getElem h⟩
def Bd (x : Int) (r : Nat) : Prop := 0 ≤ x ∧ x + r ≤ 4611686018427387904
theorem Bd.up {x : Int} {r : Nat} (h : Bd x (1 + r)) : Bd (x + 1) r := by unfold Bd at *; omega
theorem Bd.i64 {x : Int} {r : Nat} (h : Bd x r) : I64 x := by unfold Bd I64 at *; omega
theorem Bd.lo {x : Int} {r : Nat} (h : Bd x r) : 0 ≤ x := h.1
theorem Bd.hi {x : Int} {c r : Nat} (h : Bd x (c + r)) : x + (c : Nat) ≤ 4611686018427387904 := by unfold Bd at *; omega
/-! ### How many numbers the marks take -/
def jB (t : Task) : Task := ⟨6, t.need, t.try_, 0⟩
def hU (but : Int) (k : Nat) (t : Task) : Task := if (k : Int) = but ∨ t.state = 4 then t else jB t
def iI (ts : List Task) (but : Int) (k : Nat) : List Task := ts.mapIdx (fun j t => if j < k then hU but j t else t)
def jZ (ts : List Task) (but : Int) : List Task := ts.mapIdx (fun j t => hU but j t)
theorem leaveTo_zero (ts : List Task) (but : Int) : iI ts but 0 = ts := by
 apply List.ext_getElem?; intro i
 simp [iI, List.getElem?_mapIdx]
theorem leaveTo_len (ts : List Task) (but : Int) (k : Nat) : (iI ts but k).length = ts.length := by simp [iI]
theorem leaveT_len (ts : List Task) (but : Int) : (jZ ts but).length = ts.length := by simp [jZ]
theorem leaveTo_at {ts : List Task} {but : Int} {k : Nat} {t : Task} (h : ts[k]? = some t) : (iI ts but k)[k]? = some t := by
 simp [iI, List.getElem?_mapIdx, h]
theorem nO {ts : List Task} {but : Int} {k : Nat} {t y : Task} (h : ts[k]? = some t) (hy : hU but k t = y) : (iI ts but k).set k y = iI ts but (k + 1) := by
 apply List.ext_getElem?; intro i
 obtain ⟨hl, rfl⟩ := List.getElem?_eq_some_iff.1 h
 simp only [iI, List.getElem?_set, List.getElem?_mapIdx, List.length_mapIdx]
 by_cases e : k = i
 ·subst e; simp [hl, hy]
 ·rw [if_neg e]
  cases hi : ts[i]? with
  | none => rfl
  | some u =>
   have : (i < k) ↔ (i < k + 1) := by omega
   simp [this]
theorem leaveTo_all (ts : List Task) (but : Int) : iI ts but ts.length = jZ ts but := by
 apply List.ext_getElem?; intro i
 simp only [iI, jZ, List.getElem?_mapIdx]
 cases hi : ts[i]? with
 | none => rfl
 | some u => have := (List.getElem?_eq_some_iff.1 hi).1; simp [this]
theorem leaveIf_t {but : Int} {k : Nat} {t : Task} (h : ¬ (k : Int) = but) (h2 : ¬ t.state = 4) : hU but k t = jB t := by unfold hU; rw [if_neg (by simp [h, h2])]
theorem leaveIf_b {but : Int} {k : Nat} {t : Task} (h : (k : Int) = but) : hU but k t = t := by unfold hU; rw [if_pos (.inl h)]
theorem leaveIf_d {but : Int} {k : Nat} {t : Task} (h : t.state = 4) : hU but k t = t := by unfold hU; rw [if_pos (.inr h)]
def nP (r : Run) (but : Int) : Run := ⟨r.id, r.plan, r.state, jZ r.tasks but⟩
def pI (r : Run) (i : Nat) (t : Task) : Run :=
 if t.try_ < r.plan.most then ⟨r.id, r.plan, r.state, r.tasks.set i ⟨2, t.need, t.try_, 0⟩⟩
 else ⟨r.id, r.plan, 3, jZ (r.tasks.set i ⟨5, t.need, t.try_, 0⟩) i⟩
def eO (r : Run) (i : Nat) : Run := match r.tasks[i]? with | some t => pI r i t | none => r
theorem rN {r : Run} {i : Nat} {t : Task} (h : r.tasks[i]? = some t) : eO r i = pI r i t := by unfold eO; rw [h]
theorem leaveR_ok {r : Run} (h : r.ok) (b : Int) : (nP r b).ok := h

theorem LeaveI {w W0 : World} {ty : TypeId} {rs : List Res} {b : Nat} {pre cs post : List Value} {r : Run} {fp : List Nat} (hst : St w W0 (Res.bx b (pre ++ cs ++ post) ty :: Res.own (.agg cs.toArray) r fp :: rs)) (but : Int) (hw : r.tasks.length ≤ 1048576) :
  Calls Tryz.prog 177 #[.pointer (some ⟨b, pre.length, none⟩), I but] W0 fun e w' => ∃ (cs' : List Value) (fp' : List Nat), e = .returned (.tuple #[]) ∧ St w w' (Res.bx b (pre ++ cs' ++ post) ty :: Res.own (.agg cs'.toArray) (nP r but) fp' :: rs) := by
 refine bX Tryz.func177 rfl Tryz.ntmps177 aW (wp_seq (aA ?_))
 have st2 := hst.f1
 have hq_ := iH st2
 obtain ⟨v3_0, v3_1, g3_0, g3_1, he3, hok3, st4⟩ := hq_
 subst he3
 refine rn st4 6 Ag.nil.put.put [] [(10, I (r.tasks.length : Int)), (11, I 0)] [qp 2 rfl 7, ql (aI (st4.get 1 rfl))] aE fun f7 h7_ => (aB (wp_block (aZ (fun (m : Nat) (f : Nat → Value) (W : World) => ∃ (k : Nat) (fo8 : List Nat), k ≤ r.tasks.length ∧ m = r.tasks.length - k ∧ Ag [(0, .pointer (some ⟨b, pre.length, none⟩)), (1, I but), (10, I (r.tasks.length : Int)), (11, I (k : Int))] f ∧ St w W (Res.own (α := List Edge) v3_0 r.plan.edges g3_0 :: Res.own (α := List Task) v3_1 (iI r.tasks but k) fo8 :: Res.bx b (pre ++ [I r.id, I r.plan.prio, I r.plan.most, I r.plan.wait, I r.plan.tasks, v3_0, I r.state, v3_1] ++ post) ty :: rs)) (r.tasks.length - 0) ?_ ?_)))
 ·exact ⟨0, g3_1, Nat.zero_le _, rfl, (h7_.to aE), (by rw [leaveTo_zero]; exact st4)⟩
 intro m9 f10 W11 hJ12
 obtain ⟨k, fo8, hcd14_0, rfl, hA14, st13⟩ := hJ12
 have hll := leaveTo_len r.tasks but k
 refine wp_seq (aA (sg (bV (hA14.at 11) (hA14.at 10) (aB (wp_seq (aM rfl (fun h17p => ?_) (fun h17p => ?_)))))))
 ·refine wp_skip (wp_seq (wp_block (wp_seq (aA (sg (aG (v := I (k : Int)) (hA14.at 11) (sg (aC (v := I (k : Int)) rfl (aB (wp_seq (aA (rn st13 5 hA14.put.put.put [] [(17, v3_1), (18, I (k : Int))] [qp 2 rfl 7] aE fun f21 h21_ => ?_))))))))))))
  have hq_ := fJ (xs := r.tasks) (i := k) aD
  obtain ⟨t, ht⟩ := hq_
  have st22 := st13.f1
  have hq_ := St.lendx (α := Task) aW st22 (x := t) (leaveTo_at ht)
  obtain ⟨b23, e23, pre23, cs23, post23, fi23, fr23, hPA23, hC23, st24⟩ := hq_
  have st28 := st24.d1
  obtain ⟨he23, hf23, hok23⟩ := hC23; have he23 : _ = [I t.state, I t.need, I t.try_, I t.until_] := he23; subst he23
  refine sg (aN fP (h21_.at 17) hPA23 (h21_.at 18) rfl (sg (aC (v := .pointer (some ⟨b23, pre23.length, none⟩)) rfl (aB (wp_seq (aA ?_))))))
  rcases Decidable.em ((k : Int) = but) with h32p | h32p
  ·have h32 := iG h32p
   refine rn st28 10 h21_.put.put [] [(29, .bool false)] [qk h32] aE fun f33 h33_ => (aB (gQ (h33_.at 29) rfl (wp_skip (aA (sg (bQ (h33_.at 11) rfl dJ (sg (aG (v := I ((k : Int) + 1)) rfl (aB ?_)))))))))
   have st36 := st28.cs0 (cs := [I t.state, I t.need, I t.try_, I t.until_]) (x := (⟨t.state, t.need, t.try_, t.until_⟩ : Task)) ⟨rfl, rfl, hok23⟩
   have hq_ := St.give (α := Task) st36.f2.f1.f2
   obtain ⟨fp41, st42⟩ := hq_
   exact ⟨_, r.tasks.length - (k + 1), aD, rfl, k + 1, fp41, aD, rfl, (h33_.put.put.to aE), (by rw [← nO ht (leaveIf_b h32p)]; exact st42.f2.f1.f2)⟩
  ·have h32 := iF h32p
   refine rn st28 10 h21_.put.put [] [(29, .bool (!decide (t.state = 4)))] [qk h32, qp 0 rfl 0, .o] aE fun f46 h46_ => (aB (dF (h46_.at 29) (fun h47p => ?_) (fun h47p => ?_)))
   ·refine wp_seq (aA (rn st28 3 h46_ [] [(32, .pointer (some ⟨b23, pre23.length, none⟩))] [] aE fun f49 h49_ => (sg (bP (i := 0) (v := I 6) (C' := [I 6, I t.need, I t.try_, I t.until_]) aE (h49_.at 32) rfl rfl rfl st28 rfl bM rfl ?_)))); intro W50 st51
    refine aB (aA (rn st51 3 h49_ [] [(35, .pointer (some ⟨b23, pre23.length + 3, none⟩))] [] aE fun f53 h53_ => (sg (bP (i := 3) (v := I 0) (C' := [I 6, I t.need, I t.try_, I 0]) aE (h53_.at 35) rfl rfl rfl st51 rfl bM rfl ?_)))); intro W54 st55
    refine aB (aA (sg (bQ (h53_.at 11) rfl dJ (sg (aG (v := I ((k : Int) + 1)) rfl (aB ?_))))))
    have st58 := st55.cs0 (cs := [I 6, I t.need, I t.try_, I 0]) (x := (⟨6, t.need, t.try_, 0⟩ : Task)) ⟨rfl, rfl, eT⟩
    have hq_ := St.give (α := Task) st58.f2.f1.f2
    obtain ⟨fp63, st64⟩ := hq_
    exact ⟨_, r.tasks.length - (k + 1), aD, rfl, k + 1, fp63, aD, rfl, (h53_.put.put.to aE), (by rw [← nO ht (leaveIf_t h32p h47p)]; exact st64.f2.f1.f2)⟩
   ·refine wp_skip (aA (sg (bQ (h46_.at 11) rfl dJ (sg (aG (v := I ((k : Int) + 1)) rfl (aB ?_))))))
    have st70 := st28.cs0 (cs := [I t.state, I t.need, I t.try_, I t.until_]) (x := (⟨t.state, t.need, t.try_, t.until_⟩ : Task)) ⟨rfl, rfl, hok23⟩
    have hq_ := St.give (α := Task) st70.f2.f1.f2
    obtain ⟨fp75, st76⟩ := hq_
    exact ⟨_, r.tasks.length - (k + 1), aD, rfl, k + 1, fp75, aD, rfl, (h46_.put.put.to aE), (by rw [← nO ht (leaveIf_d h47p)]; exact st76.f2.f1.f2)⟩
 ·refine wp_exit ?_
  repeat (first | refine iO ?_ | refine jX ?_ | refine iV rfl ?_)
  refine yE Tryz.results177 ?_
  have hke : k = r.tasks.length := by omega
  rw [hke, leaveTo_all] at st13
  have st80 := st13.f1
  have st82 := fF (x := (nP r but)) st80.f1 (leaveR_ok (by assumption) but)
  exact ⟨_, _, rfl, st82.f1⟩
theorem FailsI {w W0 : World} {ty : TypeId} {rs : List Res} {b : Nat} {pre cs post : List Value} {r : Run} {fp : List Nat} (hst : St w W0 (Res.bx b (pre ++ cs ++ post) ty :: Res.own (.agg cs.toArray) r fp :: rs)) (i : Nat) {t : Task} (hti : r.tasks[i]? = some t) (hw : r.tasks.length ≤ 1048576) :
  Calls Tryz.prog 112 #[.pointer (some ⟨b, pre.length, none⟩), I (i : Int)] W0 fun e w' => ∃ (cs' : List Value) (fp' : List Nat), e = .returned (.tuple #[]) ∧ St w w' (Res.bx b (pre ++ cs' ++ post) ty :: Res.own (.agg cs'.toArray) (eO r i) fp' :: rs) := by
 have hil := (List.getElem?_eq_some_iff.1 hti).1
 have hrok : r.ok := by obtain ⟨_, _, _, _, _, hok, _⟩ := (bK (hst.get 1 rfl) rfl); first | exact hok | skip
 refine bX Tryz.func112 rfl Tryz.ntmps112 aW (wp_seq (aA ?_))
 have st2 := hst.f1
 have hq_ := iH st2
 obtain ⟨v3_0, v3_1, g3_0, g3_1, he3, hok3, st4⟩ := hq_
 subst he3
 refine rn st4 5 Ag.nil.put.put [] [(8, v3_1), (9, I (i : Int))] [qp 2 rfl 7] aE fun f7 h7_ => ?_
 have hq_ := St.lendx (α := Task) aW st4.f1 (x := t) hti
 obtain ⟨b9, e9, pre9, cs9, post9, fi9, fr9, hPA9, hC9, st10⟩ := hq_
 obtain ⟨he9, hf9, hok9⟩ := hC9; have he9 : _ = [I t.state, I t.need, I t.try_, I t.until_] := he9; subst he9
 refine sg (aN fP (h7_.at 8) hPA9 (h7_.at 9) rfl (sg (aC (v := .pointer (some ⟨b9, pre9.length, none⟩)) rfl (aB (wp_seq (aA (rn st10.d1 3 h7_.put.put [] [(13, .pointer (some ⟨b9, pre9.length + 3, none⟩))] [] aE fun f18 h18_ => (sg (bP (i := 3) (v := I 0) (C' := [I t.state, I t.need, I t.try_, I 0]) aE (h18_.at 13) rfl rfl rfl st10.d1 rfl bM rfl ?_))))))))); intro W19 st20
 refine aB (wp_seq (wp_seq (rd st20 h18_ [] [(23, .bool (decide (t.try_ < r.plan.most)))] [qp 0 rfl 2, qp 3 rfl 2, .o] aE aE fun f22 W23 h22_ st24 hb25 => (aM (h22_.at 23) (fun h26p => ?_) (fun h26p => ?_)))))
 ·refine wp_seq (aA (rn st24 3 h22_ [] [(26, .pointer (some ⟨b9, pre9.length, none⟩))] [] aE fun f28 h28_ => (sg (bP (i := 0) (v := I 2) (C' := [I 2, I t.need, I t.try_, I 0]) aE (h28_.at 26) rfl rfl rfl st24 rfl bM rfl ?_)))); intro W29 st30
  refine aB (wr (ret0 Tryz.results112 ?_))
  have st31 := st30.cs0 (cs := [I 2, I t.need, I t.try_, I 0]) (x := (⟨2, t.need, t.try_, 0⟩ : Task)) ⟨rfl, rfl, eT⟩
  have hq_ := St.give (α := Task) st31.f2.f1.f2
  obtain ⟨fp36, st37⟩ := hq_
  have hfT : eO r i = (⟨r.id, r.plan, r.state, r.tasks.set i ⟨2, t.need, t.try_, 0⟩⟩ : Run) := by rw [rN hti]; unfold pI; rw [if_pos h26p]
  have st39 := fF (x := (⟨r.id, r.plan, r.state, r.tasks.set i ⟨2, t.need, t.try_, 0⟩⟩ : Run)) st37.f1 (show Run.ok _ from by have hrk := hrok; simp only [Run.ok, Plan.ok, I64] at *; omega)
  try dsimp only at st39
  have st41 := st39.f1
  rw [hfT]
  exact ⟨_, _, rfl, st41⟩
 ·refine wp_skip (wp_seq (aA (rn st24 3 h22_ [] [(29, .pointer (some ⟨b9, pre9.length, none⟩))] [] aE fun f43 h43_ => (sg (bP (i := 0) (v := I 5) (C' := [I 5, I t.need, I t.try_, I 0]) aE (h43_.at 29) rfl rfl rfl st24 rfl bM rfl ?_))))); intro W44 st45
  refine aB (wp_seq (aA (sg (aG (v := .pointer (some ⟨b, pre.length, none⟩)) (h43_.at 0) (sg (aG (v := I (i : Int)) (h43_.at 1) ?_))))))
  have st48 := st45.cs0 (cs := [I 5, I t.need, I t.try_, I 0]) (x := (⟨5, t.need, t.try_, 0⟩ : Task)) ⟨rfl, rfl, eT⟩
  have hq_ := St.give (α := Task) st48.f2.f1.f2
  obtain ⟨fp53, st54⟩ := hq_
  have st57 := fF (x := (⟨r.id, ⟨r.plan.prio, r.plan.most, r.plan.wait, r.plan.tasks, r.plan.edges⟩, r.state, (r.tasks).set i (⟨5, t.need, t.try_, 0⟩ : Task)⟩ : Run)) st54.f1 hok3
  try dsimp only at st57
  have st59 := st57.f1
  refine sg (bU Tryz.func177 rfl rfl rfl ((LeaveI st59 (i : Int) (by simp only [List.length_set]; omega)).mono ?_)); rintro _ W55 ⟨cs60, fp60, rfl, st61⟩; refine ⟨_, rfl, ?_⟩
  refine aB (aA (lw h43_.put.put.put [(0, .pointer (some ⟨b, pre.length, none⟩))] aE fun h65_ => (rn st61 3 h65_ [] [(35, .pointer (some ⟨b, pre.length + 6, none⟩))] [] aE fun f64 h64_ => ?_)))
  have hq_ := iH st61.f1
  obtain ⟨v67_0, v67_1, g67_0, g67_1, he67, hok67, st68⟩ := hq_
  subst he67
  refine sg (bP (i := 6) (v := I 3) (C' := [I (nP (⟨r.id, ⟨r.plan.prio, r.plan.most, r.plan.wait, r.plan.tasks, r.plan.edges⟩, r.state, (r.tasks).set i (⟨5, t.need, t.try_, 0⟩ : Task)⟩ : Run) (i : Int)).id, I (nP (⟨r.id, ⟨r.plan.prio, r.plan.most, r.plan.wait, r.plan.tasks, r.plan.edges⟩, r.state, (r.tasks).set i (⟨5, t.need, t.try_, 0⟩ : Task)⟩ : Run) (i : Int)).plan.prio, I (nP (⟨r.id, ⟨r.plan.prio, r.plan.most, r.plan.wait, r.plan.tasks, r.plan.edges⟩, r.state, (r.tasks).set i (⟨5, t.need, t.try_, 0⟩ : Task)⟩ : Run) (i : Int)).plan.most, I (nP (⟨r.id, ⟨r.plan.prio, r.plan.most, r.plan.wait, r.plan.tasks, r.plan.edges⟩, r.state, (r.tasks).set i (⟨5, t.need, t.try_, 0⟩ : Task)⟩ : Run) (i : Int)).plan.wait, I (nP (⟨r.id, ⟨r.plan.prio, r.plan.most, r.plan.wait, r.plan.tasks, r.plan.edges⟩, r.state, (r.tasks).set i (⟨5, t.need, t.try_, 0⟩ : Task)⟩ : Run) (i : Int)).plan.tasks, v67_0, I 3, v67_1]) aE (h64_.at 35) rfl rfl rfl st68.f2 rfl bM rfl ?_); intro W72 st73
  refine aB ?_
  repeat (first | refine iO ?_ | refine jX ?_ | refine iV rfl ?_)
  refine yE Tryz.results112 ?_
  have hfT : eO r i = (⟨r.id, r.plan, 3, jZ (r.tasks.set i ⟨5, t.need, t.try_, 0⟩) i⟩ : Run) := by rw [rN hti]; unfold pI; rw [if_neg h26p]
  have st76 := fF (x := (⟨r.id, r.plan, 3, jZ (r.tasks.set i ⟨5, t.need, t.try_, 0⟩) i⟩ : Run)) st73.f2.f2 (show Run.ok _ from by have hrk := hrok; simp only [Run.ok, Plan.ok, I64] at *; omega)
  try dsimp only at st76
  have st78 := st76.f1
  rw [hfT]
  exact ⟨_, _, rfl, st78⟩
theorem hL (ts : List Task) (s : Int) : cJ ts s = (ts.countP (fun t => decide (t.state = s)) : Nat) := by unfold cJ; rw [List.countP_eq_length_filter]
theorem yJ {ts : List Task} {s : Int} {t : Task} (h : t ∈ ts) (hs : t.state = s) : 0 < cJ ts s := by
 rw [hL]
 have := List.countP_pos_iff (p := fun t : Task => decide (t.state = s)) (l := ts) |>.2 ⟨t, h, by simpa using hs⟩
 omega
theorem rT {ts : List Task} {s : Int} (h : ∀ t ∈ ts, ¬ t.state = s) : cJ ts s = 0 := by
 rw [hL, List.countP_eq_zero.2 (by intro t ht; simpa using h t ht)]; rfl
theorem wF {ts : List Task} {s : Int} (h : cJ ts s = 0) : ∀ t ∈ ts, ¬ t.state = s := fun t ht hs => by have := yJ ht hs; omega
theorem xA {ts : List Task} {s : Int} {t : Task} (h : t ∈ ts) (hs : ¬ t.state = s) : ¬ cJ ts s = ts.length := by
 rw [hL]
 intro he
 have := List.countP_eq_length (p := fun t : Task => decide (t.state = s)) (l := ts) |>.1 aD t h
 exact hs (by simpa using this)
theorem cntI_map {ts : List Task} {f : Task → Task} {s : Int} (h : ∀ t ∈ ts, ((f t).state = s ↔ t.state = s)) : cJ (ts.map f) s = cJ ts s := by
 rw [hL, hL, List.countP_map]
 congr 1
 apply List.countP_congr
 intro t ht
 simpa using h t ht
theorem uJ {ts : List Task} {i : Nat} (h : i < ts.length) (x : Task) (s : Int) : cJ (ts.set i x) s = cJ ts s - (if ts[i].state = s then 1 else 0) + (if x.state = s then 1 else 0) := by
 rw [hL, hL, List.countP_set h]
 have hpos : ts[i].state = s → 0 < ts.countP (fun t => decide (t.state = s)) := fun e => List.countP_pos_iff.2 ⟨ts[i], List.getElem_mem h, by simpa using e⟩
 simp only [decide_eq_true_eq]
 by_cases h1 : ts[i].state = s
 ·have := hpos h1
  rw [if_pos h1, if_pos h1]
  by_cases h2 : x.state = s
  ·rw [if_pos h2, if_pos h2]; omega
  ·rw [if_neg h2, if_neg h2]; omega
 ·rw [if_neg h1, if_neg h1]
  by_cases h2 : x.state = s
  ·rw [if_pos h2, if_pos h2]; omega
  ·rw [if_neg h2, if_neg h2]; omega
structure RunIs (r : Run) : Prop where
 id : 1 ≤ r.id ∧ r.id ≤ 9999
 plan : cX r.plan = 0
 len : (r.tasks.length : Int) = r.plan.tasks
 task : ∀ k, k < r.tasks.length → lD r k
 state : r.state = dN r.tasks
 ne : ¬ r.state = 0
theorem runIs {r : Run} : dK r = true ↔ RunIs r := by
 unfold dK
 rw [pB_iff]
 exact ⟨fun ⟨a, b, c, d, e, f⟩ => ⟨a, b, c, d, e, f⟩, fun h => ⟨h.id, h.plan, h.len, h.task, h.state, h.ne⟩⟩
theorem RunIs.live {r : Run} (h : RunIs r) {t : Task} (ht : t ∈ r.tasks) (h3 : t.state = 3) : r.state = 1 ∧ cJ r.tasks 5 = 0 ∧ cJ r.tasks 6 = 0 := by
 have hs := h.state
 have hn := h.ne
 have c3 := yJ ht h3
 have c4 := xA (s := 4) ht aD
 have p1 := dW r.tasks 1
 have p2 := dW r.tasks 2
 rw [hs] at hn
 rw [hs]
 unfold dN at hn ⊢
 rw [if_neg c4, if_neg aD, if_neg aD] at hn ⊢
 by_cases h1 : cJ r.tasks 5 = 0 ∧ cJ r.tasks 6 = 0
 ·rw [if_pos h1]; exact ⟨rfl, h1.1, h1.2⟩
 ·rw [if_neg h1] at hn; exact absurd rfl hn
theorem RunIs.none5 {r : Run} (h : RunIs r) {t : Task} (ht : t ∈ r.tasks) (h3 : t.state = 3) : ∀ u ∈ r.tasks, ¬ u.state = 5 ∧ ¬ u.state = 6 := fun u hu => ⟨wF (h.live ht h3).2.1 u hu, wF (h.live ht h3).2.2 u hu⟩
def fY (t : Task) : Task := if t.state = 4 ∨ t.state = 5 then t else jB t
def fD (ts : List Task) : List Task := ts.map fY
theorem tX {ts : List Task} {i : Nat} {x : Task} (hi : i < ts.length) (hx : x.state = 5) (h : ∀ u ∈ ts, ¬ u.state = 5) : jZ (ts.set i x) (i : Int) = fD (ts.set i x) := by
 apply List.ext_getElem?
 intro k
 unfold jZ fD
 rw [List.getElem?_mapIdx, List.getElem?_map, List.getElem?_set]
 by_cases e : i = k
 ·subst e
  simp [hi, hU, fY, hx]
 ·rw [if_neg e]
  cases hk : ts[k]? with
  | none => rfl
  | some u =>
   have h5 := h u (List.mem_of_getElem? hk)
   have e' : ¬ (k : Int) = (i : Int) := by omega
   simp [hU, fY, h5, e']
def uE (r : Run) (i : Nat) : Run := match r.tasks[i]? with
 | some t => if t.try_ < r.plan.most then ⟨r.id, r.plan, r.state, r.tasks.set i ⟨2, t.need, t.try_, 0⟩⟩ else ⟨r.id, r.plan, 3, fD (r.tasks.set i ⟨5, t.need, t.try_, 0⟩)⟩
 | none => r
theorem failsS_eq {r : Run} (h : RunIs r) {i : Nat} {t : Task} (ht : r.tasks[i]? = some t) (h3 : t.state = 3) : uE r i = eO r i := by
 unfold uE eO
 rw [ht]
 simp only [pI]
 have hm := List.mem_of_getElem? ht
 rw [tX (List.getElem?_eq_some_iff.1 ht).1 rfl (fun u hu => (h.none5 hm h3 u hu).1)]
theorem isDone_of {r r' : Run} (h : ∀ k : Nat, (r'.tasks[k]?).map (fun t => decide (t.state = 4)) = (r.tasks[k]?).map (fun t => decide (t.state = 4))) (x : Int) : mL r' x = mL r x := by
 unfold mL
 have := h x.toNat
 cases h1 : r'.tasks[x.toNat]? <;> cases h2 : r.tasks[x.toNat]? <;> simp [h1, h2] at this ⊢
 exact this
theorem vM {r r' : Run} (hp : r'.plan = r.plan) (h : ∀ k : Nat, (r'.tasks[k]?).map (fun t => decide (t.state = 4)) = (r.tasks[k]?).map (fun t => decide (t.state = 4))) (x : Int) : iM r' x = iM r x := by
 unfold iM dU
 rw [hp]
 congr 2
 apply List.filter_congr
 intro b _
 rw [isDone_of h]
theorem taskOkT_left {r r' : Run} {need : Int} {t : Task} (hp : r'.plan = r.plan) (h : bN r need t) : bN r' need (jB t) := by
 obtain ⟨h1, h2, h3, _⟩ := h
 refine ⟨⟨by simp [jB], by simp [jB]⟩, h2, by rw [hp]; exact h3, ?_, ?_, ?_, ?_, ?_⟩ <;> simp [jB]
theorem pL {r r' : Run} {need : Int} {t : Task} (hp : r'.plan = r.plan) (h : bN r need t) : bN r' need t := by
 unfold bN at h ⊢
 rw [hp]; exact h
theorem RunIs.fails {r : Run} (h : RunIs r) {i : Nat} {t : Task} (ht : r.tasks[i]? = some t) (h3 : t.state = 3) : RunIs (eO r i) := by
 obtain ⟨hi, rfl⟩ := List.getElem?_eq_some_iff.1 ht
 have hm : r.tasks[i] ∈ r.tasks := List.getElem_mem hi
 have hlive := h.live hm h3
 have hn5 := h.none5 hm h3
 have htk := h.task i hi hi
 obtain ⟨t1, t2, t3, t4, t5, t6, t7, t8⟩ := htk
 have t8' := t8 (.inl h3)
 rw [rN ht]
 unfold pI
 split
 ·next hlt =>
  refine ⟨h.id, h.plan, by show ((r.tasks.set i _).length : Int) = _; rw [List.length_set]; exact h.len, ?_, ?_, by show ¬ r.state = 0; omega⟩
  ·intro k hk hk'
   have hk2 : k < r.tasks.length := by simpa using hk
   rw [vM (r := r) (r' := ⟨r.id, r.plan, r.state, r.tasks.set i ⟨2, r.tasks[i].need, r.tasks[i].try_, 0⟩⟩) rfl (fun j => by
    show ((r.tasks.set i _)[j]?).map _ = _
    rw [List.getElem?_set]
    by_cases e : i = j
    ·subst e; simp [hi, h3]
    ·rw [if_neg e])]
   show bN _ _ ((r.tasks.set i _)[k]'hk')
   rw [List.getElem_set]
   split
   ·next e =>
    subst e
    refine ⟨⟨by show (1 : Int) ≤ 2; omega, by show (2 : Int) ≤ 6; omega⟩, t2, t3, ?_, fun _ => rfl, ?_, fun _ => ⟨t8'.1, hlt⟩, ?_⟩
    ·intro e; exact absurd (show (2 : Int) = 3 from e) aD
    ·intro e; exact absurd (show (2 : Int) = 1 from e) aD
    ·rintro (e | e | e)
     ·exact absurd (show (2 : Int) = 3 from e) aD
     ·exact absurd (show (2 : Int) = 4 from e) aD
     ·exact absurd (show (2 : Int) = 5 from e) aD
   ·exact pL rfl (h.task k hk2 hk2)
  ·show r.state = dN (r.tasks.set i _)
   have hmem : (⟨2, r.tasks[i].need, r.tasks[i].try_, 0⟩ : Task) ∈ r.tasks.set i ⟨2, r.tasks[i].need, r.tasks[i].try_, 0⟩ := List.mem_set hi _
   have c4 := xA (s := 4) hmem (by show ¬ (2 : Int) = 4; omega)
   have c5 : cJ (r.tasks.set i ⟨2, r.tasks[i].need, r.tasks[i].try_, 0⟩) 5 = 0 := by rw [uJ hi, h3, hlive.2.1]; rfl
   have c6 : cJ (r.tasks.set i ⟨2, r.tasks[i].need, r.tasks[i].try_, 0⟩) 6 = 0 := by rw [uJ hi, h3, hlive.2.2]; rfl
   unfold dN
   rw [if_neg c4, if_neg (by rw [c5]; omega), if_neg (by rw [c6]; omega), if_pos ⟨c5, c6⟩]
   exact hlive.1
 ·next hge =>
  rw [tX hi rfl (fun u hu => (hn5 u hu).1)]
  have hset : ∀ j, (fD (r.tasks.set i ⟨5, r.tasks[i].need, r.tasks[i].try_, 0⟩))[j]? = (if i = j then some ⟨5, r.tasks[i].need, r.tasks[i].try_, 0⟩ else (r.tasks[j]?).map fY) := by
   intro j
   unfold fD
   rw [List.getElem?_map, List.getElem?_set]
   by_cases e : i = j
   ·subst e; simp [hi, fY]
   ·rw [if_neg e, if_neg e]
  have hlen : (fD (r.tasks.set i ⟨5, r.tasks[i].need, r.tasks[i].try_, 0⟩)).length = r.tasks.length := by unfold fD; simp
  refine ⟨h.id, h.plan, by show ((fD _).length : Int) = _; rw [hlen]; exact h.len, ?_, ?_, by show ¬ (3 : Int) = 0; omega⟩
  ·intro k hk hk'
   have hk2 : k < r.tasks.length := by rw [← hlen]; exact hk
   rw [vM (r := r) (r' := ⟨r.id, r.plan, 3, fD (r.tasks.set i ⟨5, r.tasks[i].need, r.tasks[i].try_, 0⟩)⟩) rfl (fun j => by
    show ((fD _)[j]?).map _ = _
    rw [hset j]
    by_cases e : i = j
    ·subst e; simp [hi, h3]
    ·rw [if_neg e]
     cases hj : r.tasks[j]? with
     | none => rfl
     | some u =>
      simp only [Option.map_some, fY]
      split
      ·rfl
      ·next hne => simp [jB]; intro e4; exact hne (.inl e4))]
   have hg : (fD (r.tasks.set i ⟨5, r.tasks[i].need, r.tasks[i].try_, 0⟩))[k]? = some ((fD (r.tasks.set i ⟨5, r.tasks[i].need, r.tasks[i].try_, 0⟩))[k]'hk') := List.getElem?_eq_getElem hk'
   rw [hset k] at hg
   show bN _ _ ((fD (r.tasks.set i _))[k]'hk')
   by_cases e : i = k
   ·rw [if_pos e] at hg
    have := Option.some.inj hg
    rw [← this]
    subst e
    refine ⟨⟨by show (1 : Int) ≤ 5; omega, by show (5 : Int) ≤ 6; omega⟩, t2, t3, ?_, fun _ => rfl, ?_, ?_, fun _ => t8'⟩
    ·intro e; exact absurd (show (5 : Int) = 3 from e) aD
    ·intro e; exact absurd (show (5 : Int) = 1 from e) aD
    ·intro e; exact absurd (show (5 : Int) = 2 from e) aD
   ·rw [if_neg e, List.getElem?_eq_getElem hk2, Option.map_some] at hg
    have := Option.some.inj hg
    rw [← this]
    unfold fY
    split
    ·exact pL rfl (h.task k hk2 hk2)
    ·exact taskOkT_left rfl (h.task k hk2 hk2)
  ·show (3 : Int) = dN (fD _)
   have hst : ∀ s : Int, s = 1 ∨ s = 2 ∨ s = 3 → cJ (fD (r.tasks.set i ⟨5, r.tasks[i].need, r.tasks[i].try_, 0⟩)) s = 0 := by
    intro s hs
    apply rT
    intro u hu e
    unfold fD at hu
    obtain ⟨v, _, rfl⟩ := List.mem_map.1 hu
    unfold fY at e
    split at e
    ·next hc => omega
    ·have : (6 : Int) = s := e
     omega
   have c5 : cJ (fD (r.tasks.set i ⟨5, r.tasks[i].need, r.tasks[i].try_, 0⟩)) 5 = 1 := by
    unfold fD
    rw [cntI_map (fun u _ => by
     unfold fY
     split
     ·exact Iff.rfl
     ·next hc =>
      simp only [not_or] at hc
      exact ⟨fun e => absurd (show (6 : Int) = 5 from e) aD, fun e => absurd e hc.2⟩), uJ hi, h3, hlive.2.1]
    rfl
   have c4 : ¬ cJ (fD (r.tasks.set i ⟨5, r.tasks[i].need, r.tasks[i].try_, 0⟩)) 4 = (fD (r.tasks.set i ⟨5, r.tasks[i].need, r.tasks[i].try_, 0⟩)).length := by
    apply xA (t := ⟨5, r.tasks[i].need, r.tasks[i].try_, 0⟩)
    ·exact List.mem_of_getElem? (i := i) (by rw [hset i, if_pos rfl])
    ·show ¬ (5 : Int) = 4
     omega
   unfold dN
   rw [if_neg c4, if_pos ⟨c5, by rw [hst 1 (.inl rfl), hst 2 (.inr (.inl rfl)), hst 3 (.inr (.inr rfl))]; rfl⟩]
theorem failsR_keeps (r : Run) (i : Nat) : (eO r i).id = r.id ∧ (eO r i).plan = r.plan ∧ (eO r i).tasks.length = r.tasks.length ∧ ∀ (j : Nat) (t : Task), r.tasks[j]? = some t → ∃ t2, (eO r i).tasks[j]? = some t2 ∧ t2.try_ = t.try_ := by
 unfold eO
 cases hi : r.tasks[i]? with
 | none => exact ⟨rfl, rfl, rfl, fun j t h => ⟨t, h, rfl⟩⟩
 | some u =>
  obtain ⟨hl, rfl⟩ := List.getElem?_eq_some_iff.1 hi
  simp only [pI]
  split
  ·refine ⟨rfl, rfl, by simp, fun j t h => ?_⟩
   show ∃ t2, (r.tasks.set i _)[j]? = some t2 ∧ _
   rw [List.getElem?_set]
   by_cases e : i = j
   ·subst e
    rw [h] at hi
    rw [if_pos rfl, if_pos hl]
    exact ⟨_, rfl, by have := Option.some.inj hi; rw [this]⟩
   ·rw [if_neg e]; exact ⟨t, h, rfl⟩
  ·refine ⟨rfl, rfl, by simp [leaveT_len], fun j t h => ?_⟩
   show ∃ t2, (jZ (r.tasks.set i _) _)[j]? = some t2 ∧ _
   unfold jZ
   rw [List.getElem?_mapIdx, List.getElem?_set]
   have hli : ∀ (b : Int) (k : Nat) (x : Task), (hU b k x).try_ = x.try_ := by intro b k x; unfold hU; split <;> rfl
   by_cases e : i = j
   ·subst e
    rw [h] at hi
    rw [if_pos rfl, if_pos hl]
    exact ⟨_, rfl, by rw [hli]; have := Option.some.inj hi; rw [this]⟩
   ·rw [if_neg e, h]; exact ⟨_, rfl, hli _ _ _⟩
theorem rF : ∀ (C vs : List Value) (o : Nat), o + vs.length ≤ C.length → cC C o vs = C.take o ++ vs ++ C.drop (o + vs.length)
 | C, [], 0, h => by cases C <;> simp [cC]
 | c :: C, v :: vs, 0, h => by
  have := rF C vs 0 (by simp at h ⊢; omega)
  simp [cC] at this ⊢
  rw [this]
 | c :: C, vs, o + 1, h => by
  have := rF C vs o (by simp at h ⊢; omega)
  rw [show o + 1 + vs.length = (o + vs.length) + 1 by omega]
  simp [cC] at this ⊢
  rw [this]
 | [], v :: vs, o, h => by simp at h
 | [], [], o + 1, h => by simp at h
theorem vI {b o l h c s : Nat} (hne : l < c) : sliced (some ⟨b, o, none⟩) l h c s = .slice (some ⟨b, o + l * s, none⟩) (h - l) (c - l) := by
 have : ¬ c = l := by omega
 simp [sliced, this, Addr.add]
section
variable {P : Program} {n : Nat} {f : Nat → Value} {w0 W : World} {rs : List Res} {Q : Exit → Act → World → Prop} {d : Option Tmp} {ty : TypeId} {pos : String} {af : Array Go.Edge} {g : Option (Nat × Bool)} {K : Value → World → Prop} {α : Type} [Shape α]
theorem nG {t t' : TypeId} {x y : Operand} {b o m c l : Nat} {e : Int} (hT : SlOk P t t' α) (hx : ev n f x = .slice (some ⟨b, o, none⟩) m c) (hy : ev n f y = I e) (he : e = l) (hl : l ≤ m) (hne : l < c) (k : K (.slice (some ⟨b, o + l * Shape.size α, none⟩) (m - l) (c - l)) W) : Stp P n ⟨d, .slice t x (some y) none none, ty, pos, af, g⟩ f W Q K := by
 subst he
 have hel : P.elem t = t' := by simp [Program.elem, hT.desc]
 have hu : P.underlying t = some (.slice (P.elem t)) := by rw [hel]; exact hT.desc
 refine Stp.run (v := sliced (some ⟨b, o, none⟩) l m c (Shape.size α)) ?_ (by rw [vI hne]; exact k)
 simp only [execOp, hx, hy, Sem.run_bind, Option.map_none, Option.map_some]
 rw [run_sliceAt_slice (h := hu), run_slice_l (ht := hu) (h0 := by omega) (h1 := by omega), hel, kU hT.size]
 simp
theorem yU {t t' : TypeId} {x y : Operand} {b o m c h : Nat} {e : Int} (hT : SlOk P t t' α) (hx : ev n f x = .slice (some ⟨b, o, none⟩) m c) (hy : ev n f y = I e) (he : e = h) (hl : h ≤ c) (hc : 0 < c) (k : K (.slice (some ⟨b, o, none⟩) h c) W) : Stp P n ⟨d, .slice t x none (some y) none, ty, pos, af, g⟩ f W Q K := by
 subst he
 have hel : P.elem t = t' := by simp [Program.elem, hT.desc]
 have hu : P.underlying t = some (.slice (P.elem t)) := by rw [hel]; exact hT.desc
 refine Stp.run (v := sliced (some ⟨b, o, none⟩) 0 h c (Shape.size α)) ?_ (by rw [vI hc, Nat.zero_mul]; exact k)
 simp only [execOp, hx, hy, Sem.run_bind, Option.map_none, Option.map_some]
 rw [run_sliceAt_slice (h := hu), run_slice_h (ht := hu) (h0 := by omega) (h2 := by omega), hel, kU hT.size]
 simp
theorem stp_xcap {t t' : TypeId} {x : Operand} {ao : Option Addr} {m c : Nat} (hT : SlOk P t t' α) (hx : ev n f x = .slice ao m c) (k : K (I (c : Int)) W) : Stp P n ⟨d, .call { callee := .builtin .cap, args := #[x], argTypes := #[t] }, ty, pos, af, g⟩ f W Q K := by
 refine Stp.run (v := I (c : Int)) ?_ k
 have hr : (Builtin.cap_ #[t] ty #[.slice ao m c]).run P W = .ok (I (c : Int)) W := by
  simp [Builtin.cap_, run_underlying hT.desc, goInt]
 simp [execOp, hx, resolve, invoke, builtin, Sem.run_bind, hr]
theorem run_copyK (w : World) (dT sT ty elem : TypeId) (b o dLen dCap sz : Nat) (a : Addr) (sLen sCap : Nat) (cs : List Value)
  (hu : P.underlying dT = some (.slice elem)) (hs : (P.info? elem).map (·.size) = some sz) (hn : cs.length = Nat.min sLen dLen * sz)
  (hsrc : ∀ j v, cs[j]? = some v → w.cell? (a.add j) = some v) (hc : ∀ j, j < cs.length → (w.cell? ⟨b, o + j, none⟩).isSome = true) (hf : ∀ j, j < cs.length → w.frozen? ⟨b, o + j, none⟩ = false) (h1 : ∀ v ∈ cs, v.oneCell' = true) :
  (Builtin.copy_ #[dT, sT] ty #[.slice (some ⟨b, o, none⟩) dLen dCap, .slice (some a) sLen sCap]).run P w = .ok (goInt (Nat.min sLen dLen)) (w.setCells b o cs) := by
 have hl := run_loadCells_list (P := P) w a cs hsrc
 have hst := run_storeCells_cells (P := P) b o cs 0 w (by simpa using hc) (by simpa using hf) h1
 rw [hn] at hl
 cases hq : P.info? elem with
 | none => simp [hq] at hs
 | some i =>
  have hi : i.size = sz := by simpa [hq] using hs
  simp [Builtin.copy_, run_underlying hu, Builtin.lenOf, Builtin.firstCells, sizeOf, typeInfo, hq, hi, hl, hst]
theorem nZ {t e : TypeId} {x y : Operand} {b o dl dc sl sc : Nat} {a : Addr} {C cs : List Value} (hT : SlOk P t e α) (hx : ev n f x = .slice (some ⟨b, o, none⟩) dl dc) (hy : ev n f y = .slice (some a) sl sc) (hn : cs.length = Nat.min sl dl * Shape.size α)
  (hsrc : ∀ j v, cs[j]? = some v → W.cell? (a.add j) = some v) (h1 : ∀ v ∈ cs, v.oneCell' = true) (hst : St w0 W (Res.bx b C e :: rs)) (hle : o + cs.length ≤ C.length) (k : ∀ v W', St w0 W' (Res.bx b (cC C o cs) e :: rs) → K v W') :
  Stp P n ⟨d, .call { callee := .builtin .copy, args := #[x, y], argTypes := #[t, t] }, ty, pos, af, g⟩ f W Q K := by
 have hB : W.heap[b]? = some (.cells C.toArray e (0, 0)) := hst.get 0 rfl
 have hr := run_copyK (P := P) W t t ty e b o dl dc _ a sl sc cs hT.desc hT.size hn hsrc (fun j hj => by simp [World.cell?, hB]; omega) (fun j hj => by simp [World.frozen?, hB]) h1
 refine Stp.run (v := goInt (Nat.min sl dl)) (W' := W.setCells b o cs) ?_ (k _ _ (hst.store o cs hle))
 simp only [execOp, resolve, invoke, builtin, Sem.run_bind, Sem.run_pure, Result.andThen_ok, List.map_toArray, List.map_cons, List.map_nil, hx, hy, hr]
theorem stp_appz {t tn e : TypeId} {bytes : Nat} {x y : Operand} {b i c k0 n1 : Nat} {e1 : Int} {C : List Value} (hT : ApOk P t e α bytes) (htn : P.underlying tn = some (.int .i64)) (hx : ev n f x = .slice (some ⟨b, 0, none⟩) i c) (hy : ev n f y = I e1) (he1 : e1 = k0) (hn1 : i + k0 = n1) (hst : St w0 W (Res.bx b C e :: rs))
  (hC : i * Shape.size α ≤ C.length) (h0 : 0 < k0) (hg : c < n1) (h63 : n1 ≤ maxLen) (hby : n1 * bytes ≤ 140737488355328)
  (k : ∀ b2 cap Z W', n1 ≤ cap → cap ≤ maxLen → Z.length = (cap - i) * Shape.size α → Below W.heap.size W W' → St w0 W' (Res.bx b2 (C.take (i * Shape.size α) ++ Z) e :: Res.bx b C e :: rs) → K (.slice (some ⟨b2, 0, none⟩) n1 cap) W') :
  Stp P n ⟨d, .call { callee := .builtin .append, args := #[x, y], argTypes := #[t, tn] }, ty, pos, af, g⟩ f W Q K := by
 subst he1 hn1
 obtain ⟨i0, z, hi, hz, g1, g2, g3⟩ := hT.info
 have hB : W.heap[b]? = some (.cells C.toArray e (0, 0)) := hst.get 0 rfl
 have hpos := hT.pos
 have hold : (Builtin.firstCells i0.size i (.slice (some ⟨b, 0, none⟩) i c)).run P W.drew = .ok (C.take (i * Shape.size α)).toArray W.drew := by
  rw [g1]
  exact run_firstCells_some W.drew (Shape.size α) i ⟨b, 0, none⟩ i c (C.take (i * Shape.size α)) (by rw [List.length_take]; omega) (fun j v hj => by
   rw [List.getElem?_take] at hj
   split at hj
   ·rw [Addr.add_mid]; exact bZ (W := W.drew) hB j v hj
   ·cases hj)
 have hfit : Builtin.nextslicecap (i + k0) c * i0.bytes ≤ 281474976710656 := by rw [g2]; exact growslice_fits hg hby
 have hk48 : k0 * i0.bytes ≤ 281474976710656 := by
  rw [g2]
  have : k0 * bytes ≤ (i + k0) * bytes := Nat.mul_le_mul_right _ aD
  omega
 have h := Lib.run_append_grow_zeros (P := P) W t tn ty e i0 z .i64 .i64 hT.desc htn hi hz (some ⟨b, 0, none⟩) i c _ hold k0 h0 aD hg (by unfold maxLen at h63; omega) hk48 hfit
 have hge := grownCap_ge W (i + k0) c e
 have hcm := grownCap_le_maxLen W (i + k0) c e h63
 refine Stp.run (v := .slice (some ⟨W.heap.size, 0, none⟩) (i + k0) (grownCap W (i + k0) c e)) (W' := W.drew.alloc (.cells ((C.take (i * Shape.size α)).toArray ++ Builtin.zeroCells z.cells k0 ++ Builtin.zeroCells z.cells (grownCap W (i + k0) c e - (i + k0))) e))
  (by simp only [execOp, resolve, invoke, builtin, Sem.run_bind, Sem.run_pure, Result.andThen_ok, List.map_toArray, List.map_cons, List.map_nil, hx, hy, h]) ?_
 have hbd : Below W.heap.size W W.drew := (Below.refl _ _).drew
 refine k W.heap.size (grownCap W (i + k0) c e) ((Builtin.zeroCells z.cells k0).toList ++ (Builtin.zeroCells z.cells (grownCap W (i + k0) c e - (i + k0))).toList) _ hge hcm ?_ ⟨rfl, rfl, rfl, by simp, fun j hj => Below.heap_alloc W.drew _ j hj⟩ ?_
 ·rw [List.length_append, Array.length_toList, Array.length_toList, size_zeroCells, size_zeroCells, g3, ← Nat.add_mul]
  congr 1; omega
 ·have h1 : St w0 W.drew (Res.bx b C e :: rs) := by simpa using hst.call (St.of_below hbd)
  have h2 := h1.alloc (C.take (i * Shape.size α) ++ ((Builtin.zeroCells z.cells k0).toList ++ (Builtin.zeroCells z.cells (grownCap W (i + k0) c e - (i + k0))).toList)) e
  have e5 : (C.take (i * Shape.size α) ++ ((Builtin.zeroCells z.cells k0).toList ++ (Builtin.zeroCells z.cells (grownCap W (i + k0) c e - (i + k0))).toList)).toArray = (C.take (i * Shape.size α)).toArray ++ Builtin.zeroCells z.cells k0 ++ Builtin.zeroCells z.cells (grownCap W (i + k0) c e - (i + k0)) := by
   apply Array.toList_inj.1
   simp
  rw [e5] at h2
  exact h2
theorem stp_callx {F : FuncId} {x y : Operand} {v u r : Value} {ats : Array TypeId} (hx : ev n f x = v) (hy : ev n f y = u) (h : (callFunc F #[v, u]).run P W = .ok (.value r) W) (k : K r W) : Stp P n ⟨d, .call { callee := .value (.func F), args := #[x, y], argTypes := ats }, ty, pos, af, g⟩ f W Q K :=
 Stp.run (v := r) (by
  have he : ev n f (.func F) = .func (.func F) #[] #[] := rfl
  simp only [execOp, resolve, invoke, Deferred.ofValue, he, Array.append_empty, Array.empty_append, Sem.run_bind, Sem.run_pure, Result.andThen_ok, List.map_toArray, List.map_cons, List.map_nil, hx, hy, h]) k
end
theorem St.rowOpen {α : Type} [Shape α] {w0 W : World} {rs : List Res} {e : TypeId} {v : Value} {xs : List α} (h : St w0 W (Res.row e v xs [] :: rs)) (hne : 0 < xs.length) :
  ∃ b cap C, v = .slice (some ⟨b, 0, none⟩) xs.length cap ∧ xs.length ≤ cap ∧ cap ≤ maxLen ∧ C.length = cap * Shape.size α ∧ Elems W (C.take (xs.length * Shape.size α)) xs [] ∧ St w0 W (Res.bx b C e :: rs) := by
 obtain ⟨⟨cells, ho, he⟩, _⟩ := h.get 0 rfl
 rcases ho.2 with ⟨rfl, h0⟩ | ⟨g, cap, cur, rfl, _, hg, h1, h2, h3, h4⟩
 ·omega
 ·refine ⟨g, cap, cur.toList, rfl, h1, h2, by rw [Array.length_toList]; exact h3, by rw [h4]; exact he, ?_⟩
  exact h.turn (r' := Res.bx g cur.toList e) rfl rfl rfl (Nat.le_refl _) (fun _ _ _ => rfl) (by show W.heap[g]? = some (.cells cur.toList.toArray e (0, 0)); simpa using hg) (by simp [Res.bx]) (fun b hb => .inl (by simpa [Res.row, Res.bx, Value.ownBlock] using hb))
theorem St.rowShut {α : Type} [Shape α] {w0 W : World} {rs : List Res} {e : TypeId} {b cap m : Nat} {C : List Value} {xs : List α} (h : St w0 W (Res.bx b C e :: rs)) (hm : xs.length = m) (h1 : m ≤ cap) (h2 : cap ≤ maxLen) (h3 : C.length = cap * Shape.size α) (h4 : Elems W (C.take (m * Shape.size α)) xs []) :
  St w0 W (Res.row e (.slice (some ⟨b, 0, none⟩) m cap) xs [] :: rs) := by
 subst hm
 have hB : W.heap[b]? = some (.cells C.toArray e (0, 0)) := h.get 0 rfl
 refine h.turn (r' := Res.row e _ xs []) rfl rfl rfl (Nat.le_refl _) (fun _ _ _ => rfl) ⟨⟨_, ⟨?_, .inr ⟨b, cap, C.toArray, rfl, Nat.zero_le _, hB, h1, h2, by simpa using h3, rfl⟩⟩, h4⟩, by simp⟩ (by simp [Res.row, Value.ownBlock]) (fun c hc => .inl (by simpa [Res.row, Res.bx, Value.ownBlock] using hc))
 rw [List.length_take, h3]
 have := Nat.mul_le_mul_right (Shape.size α) h1
 omega
theorem Elems.parts {α : Type} [Shape α] {W : World} : ∀ {xs : List α} {cells : List Value} (i : Nat), i ≤ xs.length → Elems W cells xs [] → Elems W (cells.take (i * Shape.size α)) (xs.take i) [] ∧ Elems W (cells.drop (i * Shape.size α)) (xs.drop i) []
 | xs, cells, 0, _, h => by simpa using (show Elems W [] ([] : List α) [] ∧ Elems W cells xs [] from ⟨⟨rfl, rfl⟩, h⟩)
 | x :: xs, cells, i + 1, hi, ⟨cs, rest, f1, f2, h1, h2, h3, h4⟩ => by
  have hf := List.append_eq_nil_iff.1 h4.symm
  obtain ⟨rfl, rfl⟩ := hf
  have hl := Shape.len h2
  obtain ⟨p1, p2⟩ := Elems.parts i (by simpa using hi) h3
  subst h1
  have e1 : (cs ++ rest).take ((i + 1) * Shape.size α) = cs ++ rest.take (i * Shape.size α) := by
   rw [Nat.add_mul, Nat.one_mul, Nat.add_comm, ← hl, List.take_length_add_append]
  have e2 : (cs ++ rest).drop ((i + 1) * Shape.size α) = rest.drop (i * Shape.size α) := by
   rw [Nat.add_mul, Nat.one_mul, Nat.add_comm, ← hl, List.drop_length_add_append]
  rw [e1, e2]
  exact ⟨⟨cs, _, [], [], rfl, h2, p1, rfl⟩, p2⟩
 | [], cells, i + 1, hi, _ => by simp at hi
theorem Elems.entry {W W' : World} : ∀ {xs : List Entry} {cells : List Value}, Elems W cells xs [] → Elems W' cells xs []
 | [], _, h => h
 | x :: xs, _, ⟨cs, rest, f1, f2, h1, h2, h3, h4⟩ => by
  have hf := List.append_eq_nil_iff.1 h4.symm
  obtain ⟨rfl, rfl⟩ := hf
  exact ⟨cs, rest, [], [], h1, h2, Elems.entry h3, rfl⟩
theorem uD (D : List Value) (a m : Nat) (h : a + 4 + m ≤ D.length) : ∃ B4 Bm T, D = D.take a ++ B4 ++ Bm ++ T ∧ B4.length = 4 ∧ Bm.length = m ∧ (D.take a).length = a := by
 refine ⟨(D.drop a).take 4, ((D.drop a).drop 4).take m, ((D.drop a).drop 4).drop m, ?_, by rw [List.length_take, List.length_drop]; omega, by rw [List.length_take, List.length_drop, List.length_drop]; omega, by rw [List.length_take]; omega⟩
 rw [List.append_assoc, List.append_assoc, List.take_append_drop, List.take_append_drop, List.take_append_drop]
theorem ins_in {D Y M : List Value} {a : Nat} (hY : Y.length = 4) (h : a + 4 + M.length ≤ D.length) : ∃ T, cC (cC D (a + 4) M) a Y = D.take a ++ Y ++ M ++ T := by
 obtain ⟨B4, Bm, T, hD, h4, hm, ha⟩ := uD D a M.length h
 refine ⟨T, ?_⟩
 have e1 : cC D (a + 4) M = D.take a ++ B4 ++ M ++ T := by
  have := iK (D.take a ++ B4) Bm T M 0 aD
  rw [List.length_append, ha, h4, Nat.add_zero, iL _ _ hm.symm, ← hD] at this
  exact this
 rw [e1]
 have := iK (D.take a) B4 (M ++ T) Y 0 aD
 rw [ha, Nat.add_zero, iL _ _ aD] at this
 simpa [List.append_assoc] using this
theorem ins_new {D Y M : List Value} {a : Nat} (hY : Y.length = 4) (h : a + 4 + M.length ≤ D.length) : ∃ T, cC (cC D a Y) (a + 4) M = D.take a ++ Y ++ M ++ T := by
 obtain ⟨B4, Bm, T, hD, h4, hm, ha⟩ := uD D a M.length h
 refine ⟨T, ?_⟩
 have e1 : cC D a Y = D.take a ++ Y ++ Bm ++ T := by
  have := iK (D.take a) B4 (Bm ++ T) Y 0 aD
  rw [ha, Nat.add_zero, iL _ _ aD] at this
  rw [show D.take a ++ B4 ++ (Bm ++ T) = D by rw [← List.append_assoc]; exact hD.symm] at this
  simpa [List.append_assoc] using this
 rw [e1]
 have := iK (D.take a ++ Y) Bm T M 0 aD
 rw [List.length_append, ha, hY, Nat.add_zero, iL _ _ hm.symm] at this
 exact this
theorem vR {W W' : World} {xs : List Entry} {y : Entry} {C C2 Y T : List Value} {k : Nat} (hk : k ≤ xs.length) (he : Elems W (C.take (xs.length * 4)) xs []) (hl : xs.length * 4 ≤ C.length) (hY : Elems W' Y [y] []) (hC2 : C2 = C.take (k * 4) ++ Y ++ (C.drop (k * 4)).take ((xs.length - k) * 4) ++ T) :
  Elems W' (C2.take ((xs.length + 1) * 4)) (xs.take k ++ y :: xs.drop k) [] := by
 obtain ⟨p1, p2⟩ := Elems.parts (α := Entry) k hk he
 have hs : Shape.size Entry = 4 := rfl
 rw [hs] at p1 p2
 have hYl : Y.length = 4 := by have := hY.len; rw [hs] at this; simpa using this
 have e1 : (C.take (xs.length * 4)).take (k * 4) = C.take (k * 4) := by rw [List.take_take, Nat.min_eq_left aD]
 have e2 : (C.take (xs.length * 4)).drop (k * 4) = (C.drop (k * 4)).take ((xs.length - k) * 4) := by rw [List.drop_take, Nat.sub_mul]
 rw [e1] at p1
 rw [e2] at p2
 have hlen : (C.take (k * 4) ++ Y ++ (C.drop (k * 4)).take ((xs.length - k) * 4)).length = (xs.length + 1) * 4 := by
  rw [List.length_append, List.length_append, List.length_take, List.length_take, List.length_drop, hYl]; omega
 rw [hC2, ← hlen, List.take_left]
 have h3 := (Elems.append (Elems.append (Elems.entry (W' := W') p1) hY) (Elems.entry (W' := W') p2))
 simpa [List.append_assoc] using h3
def dX (a b : Entry) : Bool := decide (b.prio < a.prio) || (decide (a.prio = b.prio) && decide (a.seq < b.seq))
def oE (xs : List Entry) (k : Nat) : Prop := ∀ i, i + 1 < k → ∀ h : i + 1 < xs.length, dX xs[i] xs[i + 1] = true
noncomputable def eV (xs : List Entry) : Bool := pB (xs.length ≤ 80 ∧ oE xs xs.length)
theorem pT {xs : List Entry} {k : Nat} (hk : 1 ≤ k) (h : k < xs.length) (h0 : oE xs k) (h1 : dX (xs[k - 1]'(by omega)) xs[k] = true) : oE xs (k + 1) := by
 intro i hi hx
 by_cases h2 : i + 1 < k
 ·exact h0 i h2 hx
 ·have e : i = k - 1 := by omega
  subst e
  have e2 : k - 1 + 1 = k := by omega
  simp only [e2]
  exact h1
theorem rZ {xs : List Entry} {k : Nat} (hk : 1 ≤ k) (h : k < xs.length) (h1 : dX (xs[k - 1]'(by omega)) xs[k] = false) : ¬ oE xs xs.length := by
 intro h0
 have := h0 (k - 1) aD aD
 have e2 : k - 1 + 1 = k := by omega
 simp only [e2] at this
 rw [h1] at this
 cases this

theorem IndexN (w : World) {v : Value} {xs : List Int} {fp : List Nat} (h : Sl w v xs fp) (y : Int) :
  Calls Tryz.prog 144 #[v, I y] w fun e w' => e = .returned (I (ixI (fC (fun x => eqB y x) xs))) ∧ St w w' [] := by
 have hcap := h.len_le
 refine bX Tryz.func144 rfl Tryz.ntmps144 aW (wp_seq (aA (sg (aC (v := I 0) rfl (aB (wp_seq (wp_seq (aA (rn (St.start w) 3 Ag.nil.put.put.put [] [(7, I (xs.length : Int)), (8, I 0)] [ql h] aE fun f4 h4_ => (aB (wp_block (aZ (fun (m : Nat) (f : Nat → Value) (W : World) => ∃ (k : Nat), k ≤ xs.length ∧ (xs.take k).any (fun x => eqB y x) = false ∧ m = xs.length - k ∧ Ag [(0, v), (1, I y), (7, I (xs.length : Int)), (8, I (k : Int))] f ∧ St w W ([])) (xs.length - 0) ?_ ?_))))))))))))
 ·exact ⟨0, Nat.zero_le _, rfl, rfl, (h4_.to aE), (St.start w)⟩
 intro m5 f6 W7 hJ8
 obtain ⟨k, hk, hany, rfl, hA10, st9⟩ := hJ8
 refine wp_seq (aA (sg (bV (hA10.at 8) (hA10.at 7) (aB (wp_seq (aM rfl (fun h13p => ?_) (fun h13p => ?_)))))))
 ·refine wp_skip (wp_seq (wp_block (wp_seq (aA (sg (aG (v := I (k : Int)) (hA10.at 8) (sg (aC (v := I (k : Int)) rfl (aB (wp_seq (aA ?_)))))))))))
  have hi51fab : k < xs.length := aD
  have hq_ := idx h (i := k) hi51fab
  obtain ⟨b17, o17, cs17, f17, hp17, hr17, hc17, hm17⟩ := hq_
  have hk17 := hc17
  obtain ⟨rfl, rfl, hok17⟩ := hk17
  refine rn st9 6 hA10.put.put.put [] [(16, .bool (decide (y = (xs[k]'hi51fab))))] [qx hp17, qr hr17 0, .o] aE fun f18 h18_ => (aB (aM (h18_.at 16) (fun h19p => ?_) (fun h19p => ?_)))
  ·refine wp_seq (aA (sg (aG (v := I (k : Int)) (h18_.at 5) (sg (aC (v := I (k : Int)) rfl (aB (wr (aO Tryz.results144 rfl ?_))))))))
   exact ⟨(fI (by rw [jK aD hany (eE h19p)]; try rfl)), st9.bare⟩
  ·refine wp_skip (aA (sg (bQ (h18_.at 8) rfl dJ (sg (aG (v := I ((k : Int) + 1)) rfl (aB ?_))))))
   exact ⟨_, xs.length - (k + 1), aD, rfl, k + 1, aD, (mT aD hany (eX h19p)), rfl, (h18_.put.put.to aE), st9⟩
 ·refine wp_exit (wp_seq (aA (sg (aC (v := I (-1)) rfl (aB (wr (aO Tryz.results144 rfl ?_)))))))
  obtain rfl : k = xs.length := by omega
  rw [List.take_length] at hany
  exact ⟨(fI (by rw [jL hany]; try rfl)), st9.bare⟩
theorem ContN (w : World) {v : Value} {xs : List Int} {fp : List Nat} (h : Sl w v xs fp) (y : Int) :
  Calls Tryz.prog 75 #[v, I y] w fun e w' => e = .returned (.bool (decide (y ∈ xs))) ∧ St w w' [] := by
 refine bX Tryz.func75 rfl Tryz.ntmps75 aW (wp_seq (aA (sg (aC (v := .bool false) rfl (aB (wp_seq (aA (rc (St.start w) 5 Ag.nil.put.put.put [4] [(4, .bool (decide (0 ≤ (ixI (fC (fun x => eqB y x) xs)))))] [qc Tryz.func144 rfl (fun W s b => IndexN W (h.below s.below) y), .o] aE fun f4 W5 h4_ st6 hb7 => (aB (wr (aO Tryz.results75 (h4_.at 4) ?_)))))))))))
 exact ⟨(fB (aB4 y xs)), st6.bare⟩
theorem aC6 (w : World) {a b : Entry} {cs ds : List Value} {fp gp : List Nat} (hc : Shape.C w cs a fp) (hd : Shape.C w ds b gp) :
  Calls Tryz.prog 159 #[.agg cs.toArray, .agg ds.toArray] w fun e w' => e = .returned (.bool (dX a b)) ∧ St w w' [] := by
 refine bX Tryz.func159 rfl Tryz.ntmps159 aW (wp_seq (aA (sg (aJ (cs := cs) rfl (St.start w) ?_)))); intro b1 W2 hb3 st4
 refine sg (aJ (cs := ds) rfl st4 ?_); intro b6 W7 hb8 st9
 refine sg (aC (v := .bool false) rfl (aB (wp_seq (aA ?_))))
 have hk14 := hc
 obtain ⟨he14, rfl, hok14⟩ := hk14
 have he14 : _ = [I a.prio, I a.seq, I a.run, I a.task] := he14
 subst he14
 have hk15 := hd
 obtain ⟨he15, rfl, hok15⟩ := hk15
 have he15 : _ = [I b.prio, I b.seq, I b.run, I b.task] := he15
 subst he15
 rcases nem (b.prio < a.prio) with h16p | h16p
 ·have h16 := decide_eq_false h16p
  rcases nem (a.prio = b.prio) with h17p | h17p
  ·have h17 := decide_eq_false h17p
   refine rn st9 20 Ag.nil.put.put.put.put.put [4] [(4, .bool false)] [qb 1 rfl 0, qb 0 rfl 0, qk h16, qb 1 rfl 0, qb 0 rfl 0, qk h17] aE fun f18 h18_ => (aB (wr (aO Tryz.results159 (h18_.at 4) ?_)))
   exact ⟨(fB (by unfold dX; simp only [h16, h17, decide_true, decide_false, Bool.true_or, Bool.false_or, Bool.false_and, Bool.true_and, Bool.or_false, Bool.or_true, Bool.and_true, Bool.and_false])), st9.bare⟩
  ·have h17 := decide_eq_true h17p
   refine rn st9 20 Ag.nil.put.put.put.put.put [4] [(4, .bool (decide (a.seq < b.seq)))] [qb 1 rfl 0, qb 0 rfl 0, qk h16, qb 1 rfl 0, qb 0 rfl 0, qk h17, qb 1 rfl 1, qb 0 rfl 1, .o] aE fun f19 h19_ => (aB ?_)
   rcases nem (a.seq < b.seq) with h20p | h20p
   ·have h20 := decide_eq_false h20p
    refine wr (aO Tryz.results159 ((h19_.at 4).trans (congrArg Value.bool h20)) ?_)
    exact ⟨(fB (by unfold dX; simp only [h16, h17, h20, decide_true, decide_false, Bool.true_or, Bool.false_or, Bool.false_and, Bool.true_and, Bool.or_false, Bool.or_true, Bool.and_true, Bool.and_false])), st9.bare⟩
   ·have h20 := decide_eq_true h20p
    refine wr (aO Tryz.results159 ((h19_.at 4).trans (congrArg Value.bool h20)) ?_)
    exact ⟨(fB (by unfold dX; simp only [h16, h17, h20, decide_true, decide_false, Bool.true_or, Bool.false_or, Bool.false_and, Bool.true_and, Bool.or_false, Bool.or_true, Bool.and_true, Bool.and_false])), st9.bare⟩
 ·have h16 := decide_eq_true h16p
  refine rn st9 20 Ag.nil.put.put.put.put.put [4] [(4, .bool true)] [qb 1 rfl 0, qb 0 rfl 0, qk h16] aE fun f21 h21_ => (aB (wr (aO Tryz.results159 (h21_.at 4) ?_)))
  exact ⟨(fB (by unfold dX; simp only [h16, decide_true, decide_false, Bool.true_or, Bool.false_or, Bool.false_and, Bool.true_and, Bool.or_false, Bool.or_true, Bool.and_true, Bool.and_false])), st9.bare⟩
theorem aC5 (w : World) {a b : Entry} {cs ds : List Value} {fp gp : List Nat} (hc : Shape.C w cs a fp) (hd : Shape.C w ds b gp) :
  Calls Tryz.prog 211 #[.agg cs.toArray, .agg ds.toArray] w fun e w' => e = .returned (.bool (dX a b)) ∧ St w w' [] := by
 refine bX Tryz.func211 rfl Tryz.ntmps211 aW (wp_seq (aA (sg (aJ (cs := cs) rfl (St.start w) ?_)))); intro b1 W2 hb3 st4
 refine sg (aJ (cs := ds) rfl st4 ?_); intro b6 W7 hb8 st9
 refine sg (aC (v := .bool false) rfl (aB (wp_seq (aA ?_))))
 have hk14 := hc
 obtain ⟨he14, rfl, hok14⟩ := hk14
 have he14 : _ = [I a.prio, I a.seq, I a.run, I a.task] := he14
 subst he14
 have hk15 := hd
 obtain ⟨he15, rfl, hok15⟩ := hk15
 have he15 : _ = [I b.prio, I b.seq, I b.run, I b.task] := he15
 subst he15
 rcases nem (b.prio < a.prio) with h16p | h16p
 ·have h16 := decide_eq_false h16p
  rcases nem (a.prio = b.prio) with h17p | h17p
  ·have h17 := decide_eq_false h17p
   refine rn st9 20 Ag.nil.put.put.put.put.put [4] [(4, .bool false)] [qb 1 rfl 0, qb 0 rfl 0, qk h16, qb 1 rfl 0, qb 0 rfl 0, qk h17] aE fun f18 h18_ => (aB (wr (aO Tryz.results211 (h18_.at 4) ?_)))
   exact ⟨(fB (by unfold dX; simp only [h16, h17, decide_true, decide_false, Bool.true_or, Bool.false_or, Bool.false_and, Bool.true_and, Bool.or_false, Bool.or_true, Bool.and_true, Bool.and_false])), st9.bare⟩
  ·have h17 := decide_eq_true h17p
   refine rn st9 20 Ag.nil.put.put.put.put.put [4] [(4, .bool (decide (a.seq < b.seq)))] [qb 1 rfl 0, qb 0 rfl 0, qk h16, qb 1 rfl 0, qb 0 rfl 0, qk h17, qb 1 rfl 1, qb 0 rfl 1, .o] aE fun f19 h19_ => (aB ?_)
   rcases nem (a.seq < b.seq) with h20p | h20p
   ·have h20 := decide_eq_false h20p
    refine wr (aO Tryz.results211 ((h19_.at 4).trans (congrArg Value.bool h20)) ?_)
    exact ⟨(fB (by unfold dX; simp only [h16, h17, h20, decide_true, decide_false, Bool.true_or, Bool.false_or, Bool.false_and, Bool.true_and, Bool.or_false, Bool.or_true, Bool.and_true, Bool.and_false])), st9.bare⟩
   ·have h20 := decide_eq_true h20p
    refine wr (aO Tryz.results211 ((h19_.at 4).trans (congrArg Value.bool h20)) ?_)
    exact ⟨(fB (by unfold dX; simp only [h16, h17, h20, decide_true, decide_false, Bool.true_or, Bool.false_or, Bool.false_and, Bool.true_and, Bool.or_false, Bool.or_true, Bool.and_true, Bool.and_false])), st9.bare⟩
 ·have h16 := decide_eq_true h16p
  refine rn st9 20 Ag.nil.put.put.put.put.put [4] [(4, .bool true)] [qb 1 rfl 0, qb 0 rfl 0, qk h16] aE fun f21 h21_ => (aB (wr (aO Tryz.results211 (h21_.at 4) ?_)))
  exact ⟨(fB (by unfold dX; simp only [h16, decide_true, decide_false, Bool.true_or, Bool.false_or, Bool.false_and, Bool.true_and, Bool.or_false, Bool.or_true, Bool.and_true, Bool.and_false])), st9.bare⟩
theorem ShelfOkI (w : World) {v : Value} {xs : List Entry} {fp : List Nat} (h : Sl w v xs fp) :
  Calls Tryz.prog 95 #[v] w fun e w' => e = .returned (.bool (eV xs)) ∧ St w w' [] := by
 have hcap := h.len_le
 refine cO Tryz.func95 rfl Tryz.ntmps95 aW (wp_seq (aA (sg (aC (v := .bool false) rfl (aB (wp_seq (wp_seq (aA (sg (aC (v := I 1) rfl (aB (wp_block (aZ (fun (m : Nat) (f : Nat → Value) (W : World) => ∃ (k : Nat), 1 ≤ k ∧ (k ≤ xs.length ∨ k = 1) ∧ oE xs k ∧ m = xs.length - k ∧ Ag [(0, v), (3, I (k : Int))] f ∧ St w W ([])) (xs.length - 1) ?_ ?_)))))))))))))
 ·exact ⟨1, aD, aD, (fun i hi => by omega), rfl, (Ag.nil.put.put.put.to aE), (St.start w)⟩
 intro m5 f6 W7 hJ8
 obtain ⟨k, hk1, hk, hS, rfl, hA10, st9⟩ := hJ8
 refine wp_seq (wp_seq (aA (rn st9 4 hA10 [] [(7, .bool (decide ((k : Int) < (xs.length : Int))))] [ql h, .o] aE fun f12 h12_ => (aB (aM (h12_.at 7) (fun h13p => ?_) (fun h13p => ?_))))))
 ·refine wp_skip (wp_seq (wp_block (wp_seq ?_)))
  have hid0318 : ((k : Int) - 1).toNat < xs.length := aD
  have hq_ := idx h (i := ((k : Int) - 1).toNat) hid0318
  obtain ⟨b15, o15, cs15, f15, hp15, hr15, hc15, hm15⟩ := hq_
  have hk16 := hc15
  obtain ⟨he16, rfl, hok16⟩ := hk16
  have he16 : _ = [I (xs[((k : Int) - 1).toNat]'hid0318).prio, I (xs[((k : Int) - 1).toNat]'hid0318).seq, I (xs[((k : Int) - 1).toNat]'hid0318).run, I (xs[((k : Int) - 1).toNat]'hid0318).task] := he16
  subst he16
  have hi51fab : k < xs.length := aD
  have hq_ := idx h (i := k) hi51fab
  obtain ⟨b17, o17, cs17, f17, hp17, hr17, hc17, hm17⟩ := hq_
  have hk18 := hc17
  obtain ⟨he18, rfl, hok18⟩ := hk18
  have he18 : _ = [I (xs[k]'hi51fab).prio, I (xs[k]'hi51fab).seq, I (xs[k]'hi51fab).run, I (xs[k]'hi51fab).task] := he18
  subst he18
  refine rd st9 h12_ [] [(20, .bool (!(dX (xs[((k : Int) - 1).toNat]'hid0318) (xs[k]'hi51fab))))] [qsb (k : Int) 1, qxe hp15 (e := (k : Int) - 1) aD, qr hr15 0, qx hp17, qr hr17 0, qc (args := [.agg #[I (xs[((k : Int) - 1).toNat]'hid0318).prio, I (xs[((k : Int) - 1).toNat]'hid0318).seq, I (xs[((k : Int) - 1).toNat]'hid0318).run, I (xs[((k : Int) - 1).toNat]'hid0318).task], .agg #[I (xs[k]'hi51fab).prio, I (xs[k]'hi51fab).seq, I (xs[k]'hi51fab).run, I (xs[k]'hi51fab).task]]) (v := .bool (dX (xs[((k : Int) - 1).toNat]'hid0318) (xs[k]'hi51fab))) Tryz.func159 rfl (fun W s b => aC6 W hc15 hc17), .o] aE aE fun f19 W20 h19_ st21 hb22 => (cM (h19_.at 20) (fun h23 => ?_) (fun h23 => ?_))
  ·refine wp_seq (aA (sg (aC (v := .bool false) rfl (aB (wr (aO Tryz.results95 rfl ?_))))))
   exact ⟨(fB (by unfold eV; rw [cP (fun hz => rZ (k := k) aD aD ((by have hz := aX h23; rw [← hz]; simp only [show ((k : Int) - 1).toNat = k - 1 by omega])) hz.2)])), st21.bare⟩
  ·refine wp_skip (aA (rn st21 3 h19_ [3] [(3, I ((k : Int) + 1))] [qad (k : Int) 1] aE fun f27 h27_ => (aB ?_)))
   exact ⟨_, xs.length - (k + 1), aD, rfl, k + 1, aD, aD, (pT aD aD hS (by have hz := bB h23; rw [← hz]; simp only [show ((k : Int) - 1).toNat = k - 1 by omega])), rfl, (h27_.to aE), st21⟩
 ·refine wp_exit (wp_seq (aA (rn st9 4 h12_ [] [(2, .bool (decide ((xs.length : Int) ≤ 80)))] [ql h, .o] aE fun f29 h29_ => (aB ?_))))
  rcases nem ((xs.length : Int) ≤ 80) with h30p | h30p
  ·have h30 := decide_eq_false h30p
   refine wr (aO Tryz.results95 ((h29_.at 2).trans (congrArg Value.bool h30)) ?_)
   exact ⟨(fB (by unfold eV; rw [cP (fun hz => by omega)])), st9.bare⟩
  ·have h30 := decide_eq_true h30p
   refine wr (aO Tryz.results95 ((h29_.at 2).trans (congrArg Value.bool h30)) ?_)
   exact ⟨(fB (by unfold eV; rw [gI ⟨by omega, by intro i hi hx; exact hS i aD hx⟩])), st9.bare⟩
theorem ShelfOkS (w : World) {v : Value} {xs : List Entry} {fp : List Nat} (h : Sl w v xs fp) :
  Calls Tryz.prog 154 #[v] w fun e w' => e = .returned (.bool (eV xs)) ∧ St w w' [] := by
 have hcap := h.len_le
 refine cO Tryz.func154 rfl Tryz.ntmps154 aW (wp_seq (aA (sg (aC (v := .bool false) rfl (aB (wp_seq (wp_seq (aA (rn (St.start w) 3 Ag.nil.put.put [] [(6, .bool (decide (80 < (xs.length : Int))))] [ql h, .o] aE fun f4 h4_ => (aB (aM (h4_.at 6) (fun h5p => ?_) (fun h5p => ?_))))))))))))
 ·refine wp_seq (aA (sg (aC (v := .bool false) rfl (aB (wr (aO Tryz.results154 rfl ?_))))))
  exact ⟨(fB (by unfold eV; rw [cP (fun hz => by omega)])), (St.start w).bare⟩
 ·refine wp_skip (wp_seq (wp_seq (aA (sg (aC (v := I 1) rfl (aB (wp_block (aZ (fun (m : Nat) (f : Nat → Value) (W : World) => ∃ (k : Nat), 1 ≤ k ∧ (k ≤ xs.length ∨ k = 1) ∧ oE xs k ∧ m = xs.length - k ∧ Ag [(0, v), (3, I (k : Int))] f ∧ St w W ([])) (xs.length - 1) ?_ ?_))))))))
  ·exact ⟨1, aD, aD, (fun i hi => by omega), rfl, (h4_.put.to aE), (St.start w)⟩
  intro m10 f11 W12 hJ13
  obtain ⟨k, hk1, hk, hS, rfl, hA15, st14⟩ := hJ13
  refine wp_seq (wp_seq (aA (rn st14 4 hA15 [] [(10, .bool (decide ((k : Int) < (xs.length : Int))))] [ql h, .o] aE fun f17 h17_ => (aB (aM (h17_.at 10) (fun h18p => ?_) (fun h18p => ?_))))))
  ·refine wp_skip (wp_seq (wp_block (wp_seq ?_)))
   have hid0318 : ((k : Int) - 1).toNat < xs.length := aD
   have hq_ := idx h (i := ((k : Int) - 1).toNat) hid0318
   obtain ⟨b20, o20, cs20, f20, hp20, hr20, hc20, hm20⟩ := hq_
   have hk21 := hc20
   obtain ⟨he21, rfl, hok21⟩ := hk21
   have he21 : _ = [I (xs[((k : Int) - 1).toNat]'hid0318).prio, I (xs[((k : Int) - 1).toNat]'hid0318).seq, I (xs[((k : Int) - 1).toNat]'hid0318).run, I (xs[((k : Int) - 1).toNat]'hid0318).task] := he21
   subst he21
   have hi51fab : k < xs.length := aD
   have hq_ := idx h (i := k) hi51fab
   obtain ⟨b22, o22, cs22, f22, hp22, hr22, hc22, hm22⟩ := hq_
   have hk23 := hc22
   obtain ⟨he23, rfl, hok23⟩ := hk23
   have he23 : _ = [I (xs[k]'hi51fab).prio, I (xs[k]'hi51fab).seq, I (xs[k]'hi51fab).run, I (xs[k]'hi51fab).task] := he23
   subst he23
   refine rd st14 h17_ [] [(23, .bool (!(dX (xs[((k : Int) - 1).toNat]'hid0318) (xs[k]'hi51fab))))] [qsb (k : Int) 1, qxe hp20 (e := (k : Int) - 1) aD, qr hr20 0, qx hp22, qr hr22 0, qc (args := [.agg #[I (xs[((k : Int) - 1).toNat]'hid0318).prio, I (xs[((k : Int) - 1).toNat]'hid0318).seq, I (xs[((k : Int) - 1).toNat]'hid0318).run, I (xs[((k : Int) - 1).toNat]'hid0318).task], .agg #[I (xs[k]'hi51fab).prio, I (xs[k]'hi51fab).seq, I (xs[k]'hi51fab).run, I (xs[k]'hi51fab).task]]) (v := .bool (dX (xs[((k : Int) - 1).toNat]'hid0318) (xs[k]'hi51fab))) Tryz.func211 rfl (fun W s b => aC5 W hc20 hc22), .o] aE aE fun f24 W25 h24_ st26 hb27 => (cM (h24_.at 23) (fun h28 => ?_) (fun h28 => ?_))
   ·refine wp_seq (aA (sg (aC (v := .bool false) rfl (aB (wr (aO Tryz.results154 rfl ?_))))))
    exact ⟨(fB (by unfold eV; rw [cP (fun hz => rZ (k := k) aD aD ((by have hz := aX h28; rw [← hz]; simp only [show ((k : Int) - 1).toNat = k - 1 by omega])) hz.2)])), st26.bare⟩
   ·refine wp_skip (aA (rn st26 3 h24_ [3] [(3, I ((k : Int) + 1))] [qad (k : Int) 1] aE fun f32 h32_ => (aB ?_)))
    exact ⟨_, xs.length - (k + 1), aD, rfl, k + 1, aD, aD, (pT aD aD hS (by have hz := bB h28; rw [← hz]; simp only [show ((k : Int) - 1).toNat = k - 1 by omega])), rfl, (h32_.to aE), st26⟩
  ·refine wp_exit (wp_seq (aA (sg (aC (v := .bool true) rfl (aB (wr (aO Tryz.results154 rfl ?_)))))))
   exact ⟨(fB (by unfold eV; rw [gI ⟨by omega, by intro i hi hx; exact hS i aD hx⟩])), st14.bare⟩
end Go.Proofs.YtchnllpegfbleaaGreat
