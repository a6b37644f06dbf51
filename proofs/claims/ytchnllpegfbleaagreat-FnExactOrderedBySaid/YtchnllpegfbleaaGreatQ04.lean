/-
  What is wrong with a plan: of the program and of the reference.
  What a sort leaves of an owned slice of numbers.
  slices.Sort over a slice of numbers of one's own.
  The tasks before and behind a task: of the program and of the reference.
  When a run is right. Theory alone.
  When a run is right: of the program and of the reference.
  When a yard is right: of the program and of the reference.
  Copies of plans, runs, entries, yards, of both.
  Room for a run, of both.
  The laws' marks: what is written.
-/
import Derived.Shelf.Sort.Plain
import Derived.Shelf.Slices.In.SortNone
import Derived.Test.YtchnllpegfbleaaGreatQ01
import Derived.Test.YtchnllpegfbleaaGreatQ02
import Derived.Test.YtchnllpegfbleaaGreatQ03
namespace Go.Proofs.YtchnllpegfbleaaGreat
set_option linter.unusedSimpArgs false
set_option linter.unusedVariables false
set_option maxRecDepth 100000
set_option maxHeartbeats 2000000
open Go.RowKit Go.Proofs.Tryz List
variable (w : World) {cs ds : List Value} {fp gp : List Nat}
theorem I64_rng {a : Int} (h : 0 ≤ a ∧ a < 4294967296) : I64 a := by unfold I64; omega
theorem aL9 {out : List Bool} {i : Nat} (h : i < out.length) : out.getD i false = out[i] := by simp [List.getD, h]
section
variable {es : List Edge} {n : Nat} {t : Int} {q : List Int} {out : List Bool} {h i : Nat}
theorem BInv.skip1 (b : BInv es n t q out h i) (hin : EdgesIn n es) (hi : i < es.length) (hh : h < q.length) (hne : ¬ es[i].from_ = q[h]) : BInv es n t q out h (i + 1) :=
 b.skip hin (getElem?_eq_getElem hi) (getElem?_eq_getElem hh) (fun hc => hne hc.1)
theorem BInv.skip2 (b : BInv es n t q out h i) (hin : EdgesIn n es) (hi : i < es.length) (hh : h < q.length) (hl : es[i].to_.toNat < out.length) (ho : (!out[es[i].to_.toNat]) = false) : BInv es n t q out h (i + 1) :=
 b.skip hin (getElem?_eq_getElem hi) (getElem?_eq_getElem hh) (fun hc => by have := hc.2; rw [aL9 hl] at this; rw [this] at ho; cases ho)
theorem BInv.add1 (b : BInv es n t q out h i) (hin : EdgesIn n es) (hi : i < es.length) (hh : h < q.length) (hf : es[i].from_ = q[h]) (hl : es[i].to_.toNat < out.length) (ho : (!out[es[i].to_.toNat]) = true) : BInv es n t (q ++ [es[i].to_]) (out.set es[i].to_.toNat true) h (i + 1) :=
 b.add hin (getElem?_eq_getElem hi) (getElem?_eq_getElem hh) hf (by rw [aL9 hl]; simpa using ho)
end
theorem fromOf_len (es : List Edge) (n : Nat) (t : Int) : (oG es n t).length = n := by simp [oG]
theorem zH {es : List Edge} {n : Nat} {t : Int} {k : Nat} (h : k < (oG es n t).length) : (oG es n t)[k] = pB (Rch es t (k : Int)) := by simp [oG]
theorem pM {p : Plan} (h : ¬ dE p) : (1 ≤ p.tasks ∧ p.tasks ≤ 12) ∧ p.edges.length ≤ 30 := by unfold dE at h; omega

theorem IndexE {v : Value} {xs : List Edge} {fp : List Nat} (h : Sl w v xs fp) {ds : List Value} {y : Edge} {gp : List Nat} (hd : Shape.C w ds y gp) :
  Calls prog 232 #[v, .agg ds.toArray] w (rI_ (ixI (fW (fun x => eqB y x) xs)) w) := by
 have hcap := h.len_le
 refine bY func232 rfl ntmps232 aZ (wp_seq (aA (sg (aI (cs := ds) rfl (St.start w) ?_)))); intro s t a b
 refine sg (aG (aB (wp_seq (wp_seq (aA (rn b 3 Ag.nil.put.put.put.put [] [(7, I (xs.length : Int)), (8, I 0)] [ql h] aD fun f9 c => (aB (wp_block (bF (fun (m : Nat) (f : Nat → Value) (W : World) => ∃ (k : Nat), k ≤ xs.length ∧ (xs.take k).any (fun x => eqB y x) = false ∧ m = xs.length - k ∧ Ag [(0, v), (3, pt_ s), (7, I (xs.length : Int)), (8, I (k : Int))] f ∧ St w W ([Res.bx s ds 176])) (xs.length - 0) ?_ ?_)))))))))
 ·exact ⟨0, Nat.zero_le _, rfl, rfl, (c.to aD), b⟩
 intro t f11 a d
 obtain ⟨k, hk, hany, rfl, g, j⟩ := d
 refine wp_seq (aA (sg (bU (g.at 8) (g.at 7) (aB (wp_seq (aP rfl (fun n => ?_) (fun n => ?_)))))))
 ·refine wp_skip (wp_seq (wp_block (wp_seq (aA (sg (aH (g.at 8) (sg (aF (v := I (k : Int)) rfl (aB (wp_seq ?_))))))))))
  have p : k < xs.length := aE
  have s := idx h (i := k) p
  obtain ⟨t, a, b, c, q, z, d, n⟩ := s
  have A := d
  obtain ⟨B, rfl, D⟩ := A
  have B : _ = [I (xs[k]'p).from_, I (xs[k]'p).to_] := B
  subst B
  refine rk 5 j g.put.put.put [] [(11, .agg ds.toArray), (15, .agg #[I (xs[k]'p).from_, I (xs[k]'p).to_])] [qw 0 rfl (Shape.len hd), qx q, qr z 0] aD aD fun s t E F a => ?_
  have G := hd
  obtain ⟨H, rfl, b⟩ := G
  have H : _ = [I y.from_, I y.to_] := H
  subst H
  refine sg (aD9 (aB5 y (xs[k]'p)) aC9 (E.at 11) (E.at 15) (aB (bZ rfl (fun c => ?_) (fun c => ?_))))
  ·refine wp_seq (aA (sg (aH (E.at 5) (sg (aF (v := I (k : Int)) rfl (aB (wr (bA results232 rfl ?_))))))))
   exact ⟨(fI (by rw [lU aE hany c]; try rfl)), F.bare⟩
  refine wp_skip (aA (sg (bO (E.at 8) rfl dL (sg (aH (v := I ((k : Int) + 1)) rfl (aB ?_))))))
  exact ⟨_, xs.length - (k + 1), aE, rfl, k + 1, aE, (oR aE hany c), rfl, (E.put.put.put.to aD), F⟩
 refine wp_exit (wp_seq (aA (sg (aG (aB (wr (bA results232 rfl ?_)))))))
 obtain rfl : k = xs.length := by omega
 rw [take_length] at hany
 exact ⟨(fI (by rw [lV hany]; try rfl)), j.bare⟩
theorem ContE {v : Value} {xs : List Edge} {fp : List Nat} (h : Sl w v xs fp) {ds : List Value} {y : Edge} {gp : List Nat} (hd : Shape.C w ds y gp) :
  Calls prog 215 #[v, .agg ds.toArray] w (rB_ (decide (y ∈ xs)) w) := by
 refine bY func215 rfl ntmps215 aZ (wp_seq (aA (sg (aI (cs := ds) rfl (St.start w) ?_)))); intro t a c d
 refine sg (aG (aB (wp_seq (aA (rc d 5 Ag.nil.put.put.put.put [4] [(4, .bool (decide (0 ≤ (ixI (fW (fun x => eqB y x) xs)))))] [qw 0 rfl (Shape.len hd), qc func232 rfl (fun W s b => IndexE W (h.below s.below) hd), .o] aD fun f9 t a c g => (aB (wr (bA results215 (a.at 4) ?_))))))))
 exact ⟨(fB (aO9 y xs)), c.bare⟩
theorem WaitsI {p : Plan} (hc : Shape.C w cs p fp) (hn : 1 ≤ p.tasks ∧ p.tasks ≤ 12) (hl : p.edges.length ≤ 30) (hi : EdgesIn p.tasks.toNat p.edges) :
  Calls prog 216 #[.agg cs.toArray] w (rS_ (fG (eV p.edges (List.replicate p.tasks.toNat 0) p.tasks.toNat)) w) := by
 refine cN func216 rfl ntmps216 aZ (wp_seq (aA (sg (aI (cs := cs) rfl (St.start w) ?_)))); intro s a b c
 refine sg (aF (v := .slice none 0 0) rfl (aB (wp_seq (aA ?_))))
 have d := hc
 obtain ⟨g, j, rfl, q, A, rfl⟩ := d
 refine sg (aN zM rfl (sg (aW dA rfl rfl (c.get 0 rfl) (i := 3) rfl rfl ?_)))
 have hNI : I p.tasks = I ((p.tasks.toNat : Nat) : Int) := congrArg I (Int.toNat_of_nonneg aE).symm
 refine sg (tS (α := Int) (N := p.tasks.toNat) (v := I 0) (z := 0) cP aD ((show _ = I p.tasks from rfl).trans hNI) ((show _ = I p.tasks from rfl).trans hNI) aE aE c (fun W => ⟨rfl, rfl, by unfold I64; omega⟩) ?_); intro B a b d j
 refine sg (aF (v := (.slice (some ⟨B, 0, none⟩) p.tasks.toNat p.tasks.toNat)) rfl (aB (wp_seq (wp_seq (aA (rn j 3 (Ag.up (t := 7) (v := I (p.tasks.toNat : Int)) ((show _ = I p.tasks from rfl).trans hNI) Ag.nil.put.put.put.put.put.put.put) [] [(10, I p.tasks), (11, I 0)] [qb 1 rfl 3] aD fun c b => (aB (wp_block (bF (fun (m : Nat) (f : Nat → Value) (W : World) => ∃ (k : Nat) (d : List Nat), k ≤ p.tasks.toNat ∧ m = p.tasks.toNat - k ∧ Ag [(1, pt_ s), (3, (.slice (some ⟨B, 0, none⟩) p.tasks.toNat p.tasks.toNat)), (10, I p.tasks), (11, I (k : Int))] f ∧ St w W ([Res.own (α := List Int) (.slice (some ⟨B, 0, none⟩) p.tasks.toNat p.tasks.toNat) (fG (eV p.edges (List.replicate p.tasks.toNat 0) k)) d, Res.bx s [I p.prio, I p.most, I p.wait, I p.tasks, g] 106])) (p.tasks.toNat - 0) ?_ ?_)))))))))
 ·exact ⟨0, a, (by first | omega | simp), rfl, (b.to aD), (by have hz := j; rw [castL_rep] at hz; exact hz)⟩
 intro c q D E
 obtain ⟨k, d, F, rfl, G, H⟩ := E
 refine wp_seq (aA (sg (bU (G.at 11) (G.at 10) (aB (wp_seq (aP rfl (fun a => ?_) (fun a => ?_)))))))
 ·refine wp_skip (wp_seq (wp_block (wp_seq (aA (rn H 4 G.put [] [(14, g), (15, I (p.edges.length : Int)), (16, I 0)] [qb 1 rfl 4, ql A] aD fun b c => (aB (wp_block (bF (fun (m : Nat) (f : Nat → Value) (W : World) => ∃ (i : Nat) (J : List Nat), i ≤ p.edges.length ∧ m = p.edges.length - i ∧ Ag [(1, pt_ s), (3, (.slice (some ⟨B, 0, none⟩) p.tasks.toNat p.tasks.toNat)), (10, I p.tasks), (11, I (k : Int)), (14, g), (15, I (p.edges.length : Int)), (16, I (i : Int))] f ∧ St w W ([Res.own (α := List Int) (.slice (some ⟨B, 0, none⟩) p.tasks.toNat p.tasks.toNat) (fG (jH (p.edges.take i) (eV p.edges (List.replicate p.tasks.toNat 0) k))) J, Res.bx s [I p.prio, I p.most, I p.wait, I p.tasks, g] 106])) (p.edges.length - 0) ?_ ?_))))))))
  ·exact ⟨0, d, (by first | omega | simp), rfl, (c.to aD), H⟩
  intro a b j q
  obtain ⟨i, J, D, rfl, K, L⟩ := q
  refine wp_seq (aA (sg (bU (K.at 16) (K.at 15) (aB (wp_seq (aP rfl (fun E => ?_) (fun E => ?_)))))))
  ·refine wp_skip (wp_seq (wp_block (wp_seq (aA ?_))))
   have M : i < p.edges.length := aE
   have O := idx A (i := i) M
   obtain ⟨a, b, c, d, j, q, D, F⟩ := O
   refine sg (aT kY (K.at 14) j (K.at 16) rfl (sg (cY iJ rfl rfl q L.below (Shape.len D) (sg (aQ lJ L ?_))))); intro P E R S
   refine sgn (aJ (cs := c) iJ D rfl rfl S rfl ?_); intro T U
   refine aB ?_
   have X := D
   obtain ⟨Y, rfl, a⟩ := X
   have Y : _ = [I (p.edges[i]'M).from_, I (p.edges[i]'M).to_] := Y
   subst Y
   have hea := hi.at (k := i) aE
   have hxl : (fG (jH (p.edges.take i) (eV p.edges (List.replicate p.tasks.toNat 0) k))).length = p.tasks.toNat := by rw [zW, tY, kM, length_replicate]
   have hbd := wS (n := p.tasks.toNat) aE (es := p.edges.take i) (fun e he => hi e (mem_of_mem_take he)) (yW aE hi k)
   have Z : ((p.edges[i]'M).from_).toNat < (fG (jH (p.edges.take i) (eV p.edges (List.replicate p.tasks.toNat 0) k))).length := aE
   have O := idx (aM (U.get 1 rfl)) (i := ((p.edges[i]'M).from_).toNat) Z
   obtain ⟨a0, b0, a, b, c0, e0, c, d⟩ := O
   have f0 := c
   obtain ⟨rfl, rfl, j⟩ := f0
   have g0 : ((p.edges[i]'M).to_).toNat < (fG (jH (p.edges.take i) (eV p.edges (List.replicate p.tasks.toNat 0) k))).length := aE
   have O := idx (aM (U.get 1 rfl)) (i := ((p.edges[i]'M).to_).toNat) g0
   obtain ⟨h0, j0, a, b, k0, l0, d, q⟩ := O
   have m0 := d
   obtain ⟨rfl, rfl, c⟩ := m0
   refine cK 14 [] [(true, .is ((.slice (some ⟨B, 0, none⟩) p.tasks.toNat p.tasks.toNat))), (true, .is (.pointer (some ⟨P, 0 + 0, none⟩))), (true, .is (I (p.edges[i]'M).from_)), (true, .is (.pointer (some ⟨a0, b0, none⟩))), (true, .is (I ((fG (jH (p.edges.take i) (eV p.edges (List.replicate p.tasks.toNat 0) k)))[((p.edges[i]'M).from_).toNat]'Z))), (true, .is (.pointer (some ⟨P, 0 + 1, none⟩))), (true, .is (I (p.edges[i]'M).to_)), (true, .is (I (aB4 (p.edges[i]'M).to_))), (true, .is ((.slice (some ⟨B, 0, none⟩) p.tasks.toNat p.tasks.toNat))), (true, .is (.pointer (some ⟨P, 0 + 1, none⟩))), (true, .is (I (p.edges[i]'M).to_)), (true, .is (.pointer (some ⟨h0, j0, none⟩))), (true, .is (I ((fG (jH (p.edges.take i) (eV p.edges (List.replicate p.tasks.toNat 0) k)))[((p.edges[i]'M).to_).toNat]'g0))), (true, .is (I (orI (aB4 (p.edges[i]'M).to_) ((fG (jH (p.edges.take i) (eV p.edges (List.replicate p.tasks.toNat 0) k)))[((p.edges[i]'M).to_).toNat]'g0))))] mix aD aD aD aD (rs0 := []) rfl U (Below.refl _ _) ⟨(mq_ (K.at 3)), (fq_ zN (show _ = (pt_ P : Value) from rfl)), (fun f W hst hbl hd hf => aW dA rfl (hd 1 21 rfl rfl) (hst.get 0 rfl) (i := 0) rfl rfl brq), (fun f W hst hbl hd hf => aT eG (hd 0 20 rfl rfl) c0 (hd 2 22 rfl rfl) aE brq), (fun f W hst hbl hd hf => dP dA rfl (hd 3 23 rfl rfl) e0 hbl (i := 0) rfl rfl brq), (fq_ uG (show _ = (pt_ P : Value) from rfl)), (fun f W hst hbl hd hf => aW dA rfl (hd 5 25 rfl rfl) (hst.get 0 rfl) (i := 1) rfl rfl brq), (fun f W hst hbl hd hf => stp_shlI rfl (hd 6 26 rfl rfl) aE brq), (mq_ (K.at 3)), (fq_ uG (show _ = (pt_ P : Value) from rfl)), (fun f W hst hbl hd hf => aW dA rfl (hd 9 29 rfl rfl) (hst.get 0 rfl) (i := 1) rfl rfl brq), (fun f W hst hbl hd hf => aT eG (hd 8 28 rfl rfl) k0 (hd 10 30 rfl rfl) aE brq), (fun f W hst hbl hd hf => dP dA rfl (hd 11 31 rfl rfl) l0 hbl (i := 0) rfl rfl brq), (fun f W hst hbl hd hf => aK8 (hd 7 27 rfl rfl) (hd 12 32 rfl rfl) (wH aE) (kQ hbd _ _) brq), trivial⟩ ?_
   intro s a rs_ hAL_ n0 b o0 p0
   have c : rs_ = [] := hAL_
   subst c
   try simp only [cap_, cL] at n0
   refine sg (aK8 (o0 4 24 aZ rfl) (o0 13 33 aZ rfl) (kQ hbd _ _) (aB7 (wH aE) (kQ hbd _ _)) ?_)
   have Z : ((p.edges[i]'M).from_).toNat < (fG (jH (p.edges.take i) (eV p.edges (List.replicate p.tasks.toNat 0) k))).length := aE
   have O := idx (aM (n0.get 1 rfl)) (i := ((p.edges[i]'M).from_).toNat) Z
   obtain ⟨s, a, b, c, q0, d, g, j⟩ := O
   have s0 := g
   obtain ⟨rfl, rfl, q⟩ := s0
   refine sg (aT eG (o0 0 20 aZ rfl) q0 (o0 2 22 aZ rfl) aE ?_)
   have A := n0.f1
   refine sgn (qA (α := Int) (z := orI ((fG (jH (p.edges.take i) (eV p.edges (List.replicate p.tasks.toNat 0) k)))[((p.edges[i]'M).from_).toNat]'Z) (orI (aB4 (p.edges[i]'M).to_) ((fG (jH (p.edges.take i) (eV p.edges (List.replicate p.tasks.toNat 0) k)))[((p.edges[i]'M).to_).toNat]'g0))) rfl aD rfl q0 Z rfl rfl rfl A (fun W => ⟨rfl, rfl, (I64_rng (aB7 (kQ hbd _ _) (aB7 (wH aE) (kQ hbd _ _))))⟩) ?_); intro s a b
   refine aB (aA (sg (bO ((p0 16 rfl).trans (K.at 16)) rfl dL (sg (aH (v := I ((i : Int) + 1)) rfl (aB ?_))))))
   exact ⟨_, p.edges.length - (i + 1), aE, rfl, i + 1, s, aE, rfl, (Ag.cons ((p0 1 rfl).trans (K.at 1)) (Ag.cons ((p0 3 rfl).trans (K.at 3)) (Ag.cons ((p0 10 rfl).trans (K.at 10)) (Ag.cons ((p0 11 rfl).trans (K.at 11)) (Ag.cons ((p0 14 rfl).trans (K.at 14)) (Ag.cons ((p0 15 rfl).trans (K.at 15)) (Ag.cons rfl Ag.nil))))))), (by rw [relax_snoc _ _ _ aE, ← castL_relax1 (m := (jH (p.edges.take i) (eV p.edges (List.replicate p.tasks.toNat 0) k))) (e := p.edges[i]) aE aE aE]; exact b.f2.f1.d2)⟩
  refine wp_exit (aA (sg (bO (K.at 11) rfl dL (sg (aH (v := I ((k : Int) + 1)) rfl (aB ?_))))))
  exact ⟨_, p.tasks.toNat - (k + 1), aE, rfl, k + 1, J, aE, rfl, (K.put.put.put.to aD), (by rw [show eV p.edges (List.replicate p.tasks.toNat 0) (k + 1) = jH (p.edges.take i) (eV p.edges (List.replicate p.tasks.toNat 0) k) from by rw [show i = p.edges.length by omega, take_length]; rfl]; exact L)⟩
 refine wp_exit (wp_seq (aA (sg (aH (G.at 3) (sg (aF (v := (.slice (some ⟨B, 0, none⟩) p.tasks.toNat p.tasks.toNat)) rfl (aB (wr (bA results216 rfl ?_)))))))))
 obtain rfl : k = p.tasks.toNat := by omega
 exact ⟨_, _, rfl, H.only 0 rfl⟩
theorem FromS {p : Plan} (hc : Shape.C w cs p fp) (t : Int) (hn : 1 ≤ p.tasks ∧ p.tasks ≤ 12) (hl : p.edges.length ≤ 30) (hi : EdgesIn p.tasks.toNat p.edges) (ht : 0 ≤ t ∧ t < p.tasks) :
  Calls prog 213 #[.agg cs.toArray, I t] w (rS_ (oG p.edges p.tasks.toNat t) w) := by
 refine bY func213 rfl ntmps213 aZ (wp_seq (aA (sg (aI (cs := cs) rfl (St.start w) ?_)))); intro s a b c
 refine sg (aF (v := .slice none 0 0) rfl (aB (wp_seq (aA ?_))))
 have d := hc
 obtain ⟨g, j, rfl, n, A, rfl⟩ := d
 refine sg (aN zM rfl (sg (aW dA rfl rfl (c.get 0 rfl) (i := 3) rfl rfl ?_)))
 have hNI : I p.tasks = I ((p.tasks.toNat : Nat) : Int) := congrArg I (Int.toNat_of_nonneg aE).symm
 refine sg (tS (α := Bool) (N := p.tasks.toNat) (v := .bool false) (z := false) aI1 aD ((show _ = I p.tasks from rfl).trans hNI) ((show _ = I p.tasks from rfl).trans hNI) aE aE c (fun W => ⟨rfl, rfl, trivial⟩) ?_); intro B a b d j
 refine sg (aF (v := (.slice (some ⟨B, 0, none⟩) p.tasks.toNat p.tasks.toNat)) rfl (aB (wp_seq (aA (sg (aH (v := I t) rfl (sg (aU (cs := [I t]) (e := 3) (bR (v := I t) rfl dJ) (bG cP _ _ rfl rfl aZ) j ?_)))))))); intro b c d n
 refine sg (aF (v := .slice (some ⟨b, 0, none⟩) 1 1) rfl (aB (wp_seq (wp_seq (aA (sg (aG (aB (wp_block ?_)))))))))
 have D := St.row_lit (α := Int) (ys := [t]) n rfl bH (Elems.ic dL Elems.i0)
 refine bF (fun (m : Nat) (f : Nat → Value) (W : World) => ∃ (q : List Int) (out : List Bool) (h : Nat) (c : Value) (d : List Nat), BInv p.edges p.tasks.toNat t q out h 0 ∧ h ≤ q.length ∧ m = p.tasks.toNat + 2 - h ∧ Ag [(2, pt_ s), (5, (.slice (some ⟨B, 0, none⟩) p.tasks.toNat p.tasks.toNat)), (6, c), (7, I (h : Int))] f ∧ St w W ([Res.row (α := Int) 3 c q [], Res.own (α := List Bool) (.slice (some ⟨B, 0, none⟩) p.tasks.toNat p.tasks.toNat) out d, Res.bx s [I p.prio, I p.most, I p.wait, I p.tasks, g] 106])) (p.tasks.toNat + 2 - 0) ?_ ?_
 ·exact ⟨[t], (List.replicate p.tasks.toNat false), 0, (.slice (some ⟨b, 0, none⟩) 1 1), a, BInv.start, (by simp), rfl, ((Ag.up (t := 11) (v := I (p.tasks.toNat : Int)) ((show _ = I p.tasks from rfl).trans hNI) Ag.nil.put.put.put.put.put.put.put.put.put.put.put.put).to aD), D⟩
 intro j n E F
 obtain ⟨q, out, h, c, d, hB, hh, rfl, G, H⟩ := F
 have hBl := hB.len_le
 refine wp_seq (wp_seq (aA (rn H 4 G [] [(18, .bool (decide ((h : Int) < (q.length : Int))))] [ql (bX (H.get 0 rfl)), .o] aD fun a J => (aB (aP (J.at 18) (fun b => ?_) (fun b => ?_))))))
 ·refine wp_skip (wp_seq (wp_block (wp_seq (aA (sg (aG (aB (wp_block (bF (fun (m : Nat) (f : Nat → Value) (W : World) => ∃ (K : List Int) (L : List Bool) (i : Nat) (M : Value) (O : List Nat), BInv p.edges p.tasks.toNat t K L h i ∧ h < K.length ∧ i ≤ p.edges.length ∧ m = p.edges.length - i ∧ Ag [(2, pt_ s), (5, (.slice (some ⟨B, 0, none⟩) p.tasks.toNat p.tasks.toNat)), (6, M), (7, I (h : Int)), (8, I (i : Int))] f ∧ St w W ([Res.row (α := Int) 3 M K [], Res.own (α := List Bool) (.slice (some ⟨B, 0, none⟩) p.tasks.toNat p.tasks.toNat) L O, Res.bx s [I p.prio, I p.most, I p.wait, I p.tasks, g] 106])) (p.edges.length - 0) ?_ ?_)))))))))
  ·exact ⟨q, out, 0, c, d, hB, aE, aE, rfl, (J.put.to aD), H⟩
  intro a b j n
  obtain ⟨K, L, i, M, O, P, D, E, rfl, F, R⟩ := n
  have s := P.len_le
  have G := P.len
  refine wp_seq (wp_seq (aA (rn R 5 F [] [(25, .bool (decide ((i : Int) < (p.edges.length : Int))))] [qb 2 rfl 4, ql A, .o] aD fun a S => (aB (aP (S.at 25) (fun b => ?_) (fun b => ?_))))))
  ·refine wp_skip (wp_seq (wp_block (wp_seq (aA ?_))))
   have T : i < p.edges.length := aE
   have U := idx A (i := i) T
   obtain ⟨s, c, d, g, j, n, X, D⟩ := U
   refine rn R 5 S [] [(32, .agg d.toArray)] [qb 2 rfl 4, qx j, qrw n (Shape.len X)] aD fun a Y => (sg (aQ lJ R ?_)); intro b E F G
   refine sgn (aJ (cs := d) iJ X rfl (Y.at 32) G rfl ?_); intro s Z
   refine aB (wp_seq ?_)
   have a0 : h < K.length := aE
   rcases nem ((p.edges[i]'T).from_ = (K[h]'a0)) with b0 | b0
   ·have c0 := decide_eq_false b0
    have hea := hi.at (k := i) aE
    have e0 := X
    obtain ⟨f0, rfl, a⟩ := e0
    have f0 : _ = [I (p.edges[i]'T).from_, I (p.edges[i]'T).to_] := f0
    subst f0
    have a0 : h < K.length := aE
    have U := idx (bX (Z.get 1 rfl)) (i := h) a0
    obtain ⟨s, b, c, d, g0, h0, g, j⟩ := U
    have j0 := g
    obtain ⟨rfl, rfl, a⟩ := j0
    refine rd Z Y.put [] [(47, .bool false)] [qb 0 rfl 0, qx g0, qn h0 0, qk c0] aD aD fun n A D E F => (kI (D.at 47) rfl (wp_skip (aA (rn E 3 D [8] [(8, I ((i : Int) + 1))] [qad (i : Int) 1] aD fun s b => (aB ?_)))))
    exact ⟨_, p.edges.length - (i + 1), aE, rfl, K, L, i + 1, M, O, (P.skip1 hi aE aE b0), aE, aE, rfl, (b.to aD), E.f3.f3.f3.d3⟩
   have c0 := decide_eq_true b0
   have hea := hi.at (k := i) aE
   have k0 := X
   obtain ⟨l0, rfl, s⟩ := k0
   have l0 : _ = [I (p.edges[i]'T).from_, I (p.edges[i]'T).to_] := l0
   subst l0
   have a0 : h < K.length := aE
   have U := idx (bX (Z.get 1 rfl)) (i := h) a0
   obtain ⟨a, b, c, d, m0, n0, g, j⟩ := U
   have o0 := g
   obtain ⟨rfl, rfl, s⟩ := o0
   have p0 : ((p.edges[i]'T).to_).toNat < L.length := aE
   have U := idx (aM (Z.get 2 rfl)) (i := ((p.edges[i]'T).to_).toNat) p0
   obtain ⟨n, A, D, E, q0, s0, a, b⟩ := U
   have t0 := a
   obtain ⟨rfl, rfl, c⟩ := t0
   refine rd Z Y.put [] [(47, .bool (!(L[((p.edges[i]'T).to_).toNat]'p0)))] [qb 0 rfl 0, qx m0, qn n0 0, qk c0, qb 0 rfl 1, qxe q0 (e := (p.edges[i]'T).to_) aE, qn s0 0, .o] aD aD fun s b v0 w0 a => (bZ (v0.at 47) (fun x0 => ?_) (fun x0 => ?_))
   ·refine wp_seq (aA ?_)
    have p0 : ((p.edges[i]'T).to_).toNat < L.length := aE
    have U := idx (aM (w0.get 2 rfl)) (i := ((p.edges[i]'T).to_).toNat) p0
    obtain ⟨y0, z0, c, d, A0, s, b, g⟩ := U
    have B0 := b
    obtain ⟨rfl, rfl, a⟩ := B0
    refine rn w0 4 v0 [] [(51, .pointer (some ⟨y0, z0, none⟩))] [qb 0 rfl 1, qxe A0 (e := (p.edges[i]'T).to_) aE] aD fun j n => (sgn (qA (α := Bool) (z := true) rfl aD (n.at 51) A0 p0 rfl rfl rfl w0.f2 (fun W => ⟨rfl, rfl, trivial⟩) ?_)); intro s a b
    refine aB (aA (rn b 3 n [] [(52, M), (54, I (p.edges[i]'T).to_)] [qb 1 rfl 1] aD fun c d => (sg (aU (cs := [I (p.edges[i]'T).to_]) (e := 3) (bR (d.at 54) dJ) (bG cP _ _ rfl rfl aZ) b ?_)))); intro a g j n
    have hxx := P.add1 hi aE aE (by assumption) aE (by assumption)
    have hxl := hxx.len_le
    rw [length_append] at hxl
    refine sg (cA (ys := [(p.edges[i]'T).to_]) cP (d.at 52) rfl rfl n.f3 (Elems.ic (by simp only [I64]; omega) Elems.i0) (by unfold maxLen; omega) aE ?_); intro a b c
    refine sg (aF (v := a) rfl (aB (aA (rn c 3 d.put.put.put [8] [(8, I ((i : Int) + 1))] [qad (i : Int) 1] aD fun g j => (aB ?_)))))
    exact ⟨_, p.edges.length - (i + 1), aE, rfl, K ++ [(p.edges[i]'T).to_], (L).set ((p.edges[i]'T).to_).toNat true, i + 1, a, s, (P.add1 hi aE aE b0 aE x0), (by rw [length_append]; omega), aE, rfl, (j.to aD), c.f3.f2.f2.d3⟩
   refine wp_skip (aA (rn w0 3 v0 [8] [(8, I ((i : Int) + 1))] [qad (i : Int) 1] aD fun b d => (aB ?_)))
   exact ⟨_, p.edges.length - (i + 1), aE, rfl, K, L, i + 1, M, O, (P.skip2 hi aE aE aE x0), aE, aE, rfl, (d.to aD), w0.f3.f3.f3.d3⟩
  refine wp_exit (aA (rn R 3 S [7] [(7, I ((h : Int) + 1))] [qad (h : Int) 1] aD fun s a => (aB ?_)))
  exact ⟨_, p.tasks.toNat + 2 - (h + 1), aE, rfl, K, L, h + 1, M, O, (P.next aE), aE, rfl, (a.to aD), R⟩
 refine wp_exit (wp_seq (aA (sg (aH (J.at 5) (sg (aF (v := (.slice (some ⟨B, 0, none⟩) p.tasks.toNat p.tasks.toNat)) rfl (aB (wr (bA results213 rfl ?_)))))))))
 have s := H.f1
 have hall := hB.all aE
 rw [hall] at s
 exact ⟨_, _, rfl, s.only 0 rfl⟩
theorem ManyS {p : Plan} (hc : Shape.C w cs p fp) :
  Calls prog 212 #[.agg cs.toArray] w (rB_ (pB (dE p)) w) := by
 refine cN func212 rfl ntmps212 aZ (wp_seq (aA (sg (aI (cs := cs) rfl (St.start w) ?_)))); intro t a c d
 refine sg (aG (aB (wp_seq (aA ?_))))
 have g := hc
 obtain ⟨j, n, rfl, q, z, rfl⟩ := g
 rcases bd (!(inB p.tasks 1 12)) with A | A
 ·have B := inB_iff'.1 (aX A)
  rcases nem (30 < (p.edges.length : Int)) with t | t
  ·have a := decide_eq_false t
   rcases bd (!(inB p.prio 0 9)) with c | c
   ·have D := inB_iff'.1 (aX c)
    rcases bd (!(inB p.most 1 5)) with g | g
    ·have j := inB_iff'.1 (aX g)
     refine rc d 29 Ag.nil.put.put.put [2] [(2, .bool (!(inB p.wait 1 20)))] [qb 0 rfl 3, qc func43 rfl (fun W s b => cR W p.tasks 1 12), qk A, qb 0 rfl 4, ql z, qk a, qb 0 rfl 0, qc func43 rfl (fun W s b => cR W p.prio 0 9), qk c, qb 0 rfl 1, qc func43 rfl (fun W s b => cR W p.most 1 5), qk g, qb 0 rfl 2, qc func43 rfl (fun W s b => cR W p.wait 1 20), .o] aD fun f14 n q E F => (aB ?_)
     rcases bd (!(inB p.wait 1 20)) with G | G
     ·have H := inB_iff'.1 (aX G)
      refine wr (bA results212 ((q.at 2).trans (congrArg Value.bool G)) ?_)
      exact ⟨(fB (by rw [fU (by unfold dE; omega)])), E.bare⟩
     have H := cU (aY G)
     refine wr (bA results212 ((q.at 2).trans (congrArg Value.bool G)) ?_)
     exact ⟨(fB (by rw [oX (by unfold dE; omega)])), E.bare⟩
    have j := cU (aY g)
    refine rc d 29 Ag.nil.put.put.put [2] [(2, .bool true)] [qb 0 rfl 3, qc func43 rfl (fun W s b => cR W p.tasks 1 12), qk A, qb 0 rfl 4, ql z, qk a, qb 0 rfl 0, qc func43 rfl (fun W s b => cR W p.prio 0 9), qk c, qb 0 rfl 1, qc func43 rfl (fun W s b => cR W p.most 1 5), qk g] aD fun j n q E F => (aB (wr (bA results212 (q.at 2) ?_)))
    exact ⟨(fB (by rw [oX (by unfold dE; omega)])), E.bare⟩
   have D := cU (aY c)
   refine rc d 29 Ag.nil.put.put.put [2] [(2, .bool true)] [qb 0 rfl 3, qc func43 rfl (fun W s b => cR W p.tasks 1 12), qk A, qb 0 rfl 4, ql z, qk a, qb 0 rfl 0, qc func43 rfl (fun W s b => cR W p.prio 0 9), qk c] aD fun g j n q D => (aB (wr (bA results212 (n.at 2) ?_)))
   exact ⟨(fB (by rw [oX (by unfold dE; omega)])), q.bare⟩
  have a := decide_eq_true t
  refine rc d 29 Ag.nil.put.put.put [2] [(2, .bool true)] [qb 0 rfl 3, qc func43 rfl (fun W s b => cR W p.tasks 1 12), qk A, qb 0 rfl 4, ql z, qk a] aD fun c g j n D => (aB (wr (bA results212 (j.at 2) ?_)))
  exact ⟨(fB (by rw [oX (by unfold dE; omega)])), n.bare⟩
 have B := cU (aY A)
 refine rc d 29 Ag.nil.put.put.put [2] [(2, .bool true)] [qb 0 rfl 3, qc func43 rfl (fun W s b => cR W p.tasks 1 12), qk A] aD fun t a c g j => (aB (wr (bA results212 (c.at 2) ?_)))
 exact ⟨(fB (by rw [oX (by unfold dE; omega)])), g.bare⟩
theorem kR {p : Plan} (hc : Shape.C w cs p fp) :
  Calls prog 160 #[.agg cs.toArray] w (rI_ (bM p) w) := by
 refine cN func160 rfl ntmps160 aZ (wp_seq (aA (sg (aI (cs := cs) rfl (St.start w) ?_)))); intro a c d g
 refine sg (aG (aB (wp_seq (wp_seq (aA ?_)))))
 have j := hc
 obtain ⟨q, z, rfl, A, B, rfl⟩ := j
 rcases bd (!(inB p.tasks 1 12)) with D | D
 ·have E := inB_iff'.1 (aX D)
  rcases nem (30 < (p.edges.length : Int)) with F | F
  ·have G := decide_eq_false F
   rcases bd (!(inB p.prio 0 9)) with H | H
   ·have J := inB_iff'.1 (aX H)
    rcases bd (!(inB p.most 1 5)) with K | K
    ·have L := inB_iff'.1 (aX K)
     refine rc g 28 Ag.nil.put.put.put [] [(36, .bool (!(inB p.wait 1 20)))] [qb 0 rfl 3, qc func47 rfl (fun W s b => cF W p.tasks 1 12), qk D, qb 0 rfl 4, ql B, qk G, qb 0 rfl 0, qc func47 rfl (fun W s b => cF W p.prio 0 9), qk H, qb 0 rfl 1, qc func47 rfl (fun W s b => cF W p.most 1 5), qk K, qb 0 rfl 2, qc func47 rfl (fun W s b => cF W p.wait 1 20), .o] aD fun f14 c d j z => (aB (bZ (d.at 36) (fun A => ?_) (fun A => ?_)))
     ·have M := cU (aY A)
      refine wp_seq (aA (sg (aG (aB (wr (bA results160 rfl ?_))))))
      exact ⟨(fI (by rw [pf1 (by unfold dE; omega)])), j.bare⟩
     have M := inB_iff'.1 (aX A)
     refine wp_skip (wp_seq (wp_seq (aA ?_)))
     have hM : ¬ dE p := by unfold dE; omega
     have hMb := pM hM
     refine rn j 4 d [] [(38, q), (39, I (p.edges.length : Int)), (40, I 0)] [qb 0 rfl 4, ql B] aD fun c z => (aB (wp_block (bF (fun (m : Nat) (f : Nat → Value) (W : World) => ∃ (k : Nat), k ≤ p.edges.length ∧ EdgesIn p.tasks.toNat (p.edges.take k) ∧ m = p.edges.length - k ∧ Ag [(1, pt_ a), (38, q), (39, I (p.edges.length : Int)), (40, I (k : Int))] f ∧ St w W ([Res.bx a [I p.prio, I p.most, I p.wait, I p.tasks, q] 106])) (p.edges.length - 0) ?_ ?_)))
     ·exact ⟨0, aE, EdgesIn.nil, rfl, (z.to aD), j⟩
     intro c d A M
     obtain ⟨k, hk, hEk, rfl, N, O⟩ := M
     refine wp_seq (aA (sg (bU (N.at 40) (N.at 39) (aB (wp_seq (aP rfl (fun P => ?_) (fun P => ?_)))))))
     ·refine wp_skip (wp_seq (wp_block (wp_seq (aA ?_))))
      have R : k < p.edges.length := aE
      have S := idx B (i := k) R
      obtain ⟨c, d, j, z, A, M, T, U⟩ := S
      refine sg (aT kY (N.at 38) A (N.at 40) rfl (sg (cY iJ rfl rfl M O.below (Shape.len T) (sg (aQ lJ O ?_))))); intro P X Y Z
      refine sgn (aJ (cs := j) iJ T rfl rfl Z rfl ?_); intro c a0
      refine aB (wp_seq (aA ?_))
      have b0 := T
      obtain ⟨c0, rfl, d⟩ := b0
      have c0 : _ = [I (p.edges[k]'R).from_, I (p.edges[k]'R).to_] := c0
      subst c0
      rcases bd (!(inB (p.edges[k]'R).from_ 0 (p.tasks - 1))) with j | j
      ·have z := inB_iff'.1 (aX j)
       refine rc a0 16 N.put.put.put.put [] [(59, .bool (!(inB (p.edges[k]'R).to_ 0 (p.tasks - 1))))] [qb 0 rfl 0, qb 1 rfl 3, qsb p.tasks 1, qc (args := [I (p.edges[k]'R).from_, I 0, I (p.tasks - 1)]) (v := .bool (inB (p.edges[k]'R).from_ 0 (p.tasks - 1))) func47 rfl (fun W s b => cF W (p.edges[k]'R).from_ 0 (p.tasks - 1)), qk j, qb 0 rfl 1, qb 1 rfl 3, qsb p.tasks 1, qc (args := [I (p.edges[k]'R).to_, I 0, I (p.tasks - 1)]) (v := .bool (inB (p.edges[k]'R).to_ 0 (p.tasks - 1))) func47 rfl (fun W s b => cF W (p.edges[k]'R).to_ 0 (p.tasks - 1)), .o] aD fun c d A M P => (aB (bZ (A.at 59) (fun T => ?_) (fun T => ?_)))
       ·have U := cU (aY T)
        refine wp_seq (aA (sg (aG (aB (wr (bA results160 rfl ?_))))))
        have hnE : ¬ EdgesIn p.tasks.toNat p.edges := fun hE => by have hea := hE.at (k := k) aE; omega
        exact ⟨(fI (by rw [pf2 hM hnE])), M.bare⟩
       have U := inB_iff'.1 (aX T)
       refine wp_skip (aA (sg (bO (A.at 40) rfl dL (sg (aH (v := I ((k : Int) + 1)) rfl (aB ?_))))))
       exact ⟨_, p.edges.length - (k + 1), aE, rfl, k + 1, aE, (hEk.step aE aE), rfl, (A.put.put.to aD), M.f1.d1⟩
      have z := cU (aY j)
      refine rc a0 16 N.put.put.put.put [] [(59, .bool true)] [qb 0 rfl 0, qb 1 rfl 3, qsb p.tasks 1, qc (args := [I (p.edges[k]'R).from_, I 0, I (p.tasks - 1)]) (v := .bool (inB (p.edges[k]'R).from_ 0 (p.tasks - 1))) func47 rfl (fun W s b => cF W (p.edges[k]'R).from_ 0 (p.tasks - 1)), qk j] aD fun c d z A M => (aB (gY (z.at 59) rfl (wp_seq (aA (sg (aG (aB (wr (bA results160 rfl ?_)))))))))
      have hnE : ¬ EdgesIn p.tasks.toNat p.edges := fun hE => by have hea := hE.at (k := k) aE; omega
      exact ⟨(fI (by rw [pf2 hM hnE])), A.bare⟩
     refine wp_exit (wp_seq (wp_seq (aA ?_)))
     have hE : EdgesIn p.tasks.toNat p.edges := by rw [show k = p.edges.length by omega, take_length] at hEk; exact hEk
     refine rn O 4 N.put [] [(62, q), (63, I (p.edges.length : Int)), (64, I 0)] [qb 0 rfl 4, ql B] aD fun c d => (aB (wp_block (bF (fun (m : Nat) (f : Nat → Value) (W : World) => ∃ (j : Nat), j ≤ p.edges.length ∧ (p.edges.take j).Nodup ∧ m = p.edges.length - j ∧ Ag [(1, pt_ a), (62, q), (63, I (p.edges.length : Int)), (64, I (j : Int))] f ∧ St w W ([Res.bx a [I p.prio, I p.most, I p.wait, I p.tasks, q] 106])) (p.edges.length - 0) ?_ ?_)))
     ·exact ⟨0, aE, nodup_nil, rfl, (d.to aD), O⟩
     intro c z A M
     obtain ⟨j, N, hNk, rfl, P, R⟩ := M
     refine wp_seq (aA (sg (bU (P.at 64) (P.at 63) (aB (wp_seq (aP rfl (fun T => ?_) (fun T => ?_)))))))
     ·refine wp_skip (wp_seq (wp_block (wp_seq (aA ?_))))
      have d : j < p.edges.length := aE
      have S := idx B (i := j) d
      obtain ⟨c, z, N, M, O, U, X, Y⟩ := S
      refine rn R 3 P.put [] [(66, I (j : Int)), (68, .agg N.toArray)] [qx O, qrw U (Shape.len X)] aD fun T Z => (sg (aQ lJ R ?_)); intro a0 b0 c0 e0
      refine sg (aF (Z.at 66) (sgn (aJ (cs := N) iJ X rfl (Z.at 68) e0 rfl ?_))); intro c z
      refine aB (wp_seq ?_)
      have S := aE1 B (h := j) aE
      obtain ⟨M, O, T, U, Y⟩ := S
      refine cK 5 [] [(true, .is (.pointer (some ⟨a, 0 + 4, none⟩))), (true, .is (q)), (true, .is (I (j : Int))), (true, .is M), (true, .is (.agg N.toArray))] mix aD aD aD aD (rs0 := []) rfl z (Below.refl _ _) ⟨(fq_ lW (Z.at 1)), (fun f W hst hbl hd hf => aW xE rfl (hd 0 69 rfl rfl) (hst.get 1 rfl) (i := 4) rfl rfl brq), (mq_ (show _ = I (j : Int) from rfl)), (fun f W hst hbl hd hf => Y kY (hd 1 70 rfl rfl) (hd 2 71 rfl rfl) rfl brq), (fun f W hst hbl hd hf => aV iJ rfl ((hf 6 rfl).trans (show _ = (pt_ a0 : Value) from rfl)) (hst.get 0 rfl) (Shape.len X) brq), trivial⟩ ?_
      intro c z rs_ hAL_ O U Y b0
      have c0 : rs_ = [] := hAL_
      subst c0
      try simp only [cap_, cL] at O
      refine rc O 1 (Ag.cons (show c 1 = pt_ a from ((b0 1 rfl).trans (Z.at 1))) (Ag.cons (show c 62 = q from ((b0 62 rfl).trans (Z.at 62))) (Ag.cons (show c 63 = I (p.edges.length : Int) from ((b0 63 rfl).trans (Z.at 63))) (Ag.cons (show c 64 = I (j : Int) from ((b0 64 rfl).trans (Z.at 64))) (Ag.cons (show c 72 = M from (Y 3 72 aZ rfl)) (Ag.cons (show c 73 = .agg N.toArray from (Y 4 73 aZ rfl)) Ag.nil)))))) [] [(74, .bool (decide ((p.edges[j]'d) ∈ (p.edges.take j))))] [qc (args := [M, .agg N.toArray]) (v := .bool (decide ((p.edges[j]'d) ∈ (p.edges.take j)))) func215 rfl (fun W s b => ContE W (T.below s.below) X)] aD fun z O U Z c => (aB (aP (U.at 74) (fun Y => ?_) (fun Y => ?_)))
      ·refine wp_seq (aA (sg (aG (aB (wr (bA results160 rfl ?_))))))
       have hnN : ¬ p.edges.Nodup := sR (k := j) aE (by assumption)
       exact ⟨(fI (by rw [pf3 hM hE hnN])), Z.bare⟩
      refine wp_skip (aA (sg (bO (U.at 64) rfl dL (sg (aH (v := I ((j : Int) + 1)) rfl (aB ?_))))))
      exact ⟨_, p.edges.length - (j + 1), aE, rfl, j + 1, aE, (xA hNk aE (by assumption)), rfl, (U.put.put.to aD), Z.f1.d1⟩
     refine wp_exit (wp_seq (wp_seq (aA ?_)))
     have hN : p.edges.Nodup := by rw [show j = p.edges.length by omega, take_length] at hNk; exact hNk
     refine sg (aS (cs := [I p.prio, I p.most, I p.wait, I p.tasks, q]) gU rfl (P.at 1) (R.get 0 rfl) rfl rfl (sg (bC func216 rfl rfl ((WaitsI A (aR hc R.below) aE aE hE).mono ?_)))); rintro _ c ⟨d, j, rfl, z⟩; refine ⟨_, rfl, ?_⟩
     have M := St.call R z
     have hwl : (fG (eV p.edges (List.replicate p.tasks.toNat 0) p.tasks.toNat)).length = p.tasks.toNat := by rw [zW, kM, length_replicate]
     have hbd := yW (n := p.tasks.toNat) aE hE p.tasks.toNat
     refine sg (eY eG rfl (aM (M.get 0 rfl)) (sg (aH (v := I 0) rfl (aB (wp_block (bF (fun (m : Nat) (f : Nat → Value) (W : World) => ∃ (f0 : Nat), f0 ≤ p.tasks.toNat ∧ (∀ t : Nat, t < f0 → ¬ Rch p.edges (t : Int) (t : Int)) ∧ m = p.tasks.toNat - f0 ∧ Ag [(77, d), (78, I ((fG (eV p.edges (List.replicate p.tasks.toNat 0) p.tasks.toNat)).length : Int)), (79, I (f0 : Int))] f ∧ St w W ([Res.own (α := List Int) d (fG (eV p.edges (List.replicate p.tasks.toNat 0) p.tasks.toNat)) j, Res.bx a [I p.prio, I p.most, I p.wait, I p.tasks, q] 106])) (p.tasks.toNat - 0) ?_ ?_))))))
     ·exact ⟨0, aE, (fun t ht => absurd ht (Nat.not_lt_zero t)), rfl, (P.put.put.put.put.put.to aD), M⟩
     intro c z A N
     obtain ⟨f0, d, hW, rfl, g0, h0⟩ := N
     refine wp_seq (aA (sg (bU (g0.at 79) (g0.at 78) (aB (wp_seq (aP rfl (fun a => ?_) (fun a => ?_)))))))
     ·refine wp_skip (wp_seq (wp_block (wp_seq (aA ?_))))
      have j0 : f0 < (fG (eV p.edges (List.replicate p.tasks.toNat 0) p.tasks.toNat)).length := aE
      have S := idx (aM (h0.get 0 rfl)) (i := f0) j0
      obtain ⟨c, d, j, q, k0, l0, z, A⟩ := S
      have m0 := z
      obtain ⟨rfl, rfl, a⟩ := m0
      refine rn h0 5 g0.put [] [(7, I (f0 : Int)), (8, I ((fG (eV p.edges (List.replicate p.tasks.toNat 0) p.tasks.toNat))[f0]'j0))] [qx k0, qn l0 0] aD fun M n0 => (aB (wp_seq (aA (sg (aH (n0.at 8) (sg (aH (n0.at 7) (sg (stp_shrI rfl rfl (kQ hbd _ _).1 aE (sg (stp_andI rfl rfl (shrI_rng (kQ hbd _ _)) aE (sg (dC rfl rfl (aB (aP rfl (fun o0 => ?_) (fun o0 => ?_))))))))))))))))
      ·refine wp_seq (aA (sg (aG (aB (wr (bA results160 rfl ?_))))))
       have hC : lP p := ⟨f0, aE, (yM hE aE _).1 (by assumption)⟩
       exact ⟨(fI (by rw [pf4 hM hE hN hC])), h0.bare⟩
      refine wp_skip (aA (sg (bO (n0.at 79) rfl dL (sg (aH (v := I ((f0 : Int) + 1)) rfl (aB ?_))))))
      exact ⟨_, p.tasks.toNat - (f0 + 1), aE, rfl, f0 + 1, aE, (fun t ht => by rcases Nat.lt_succ_iff_lt_or_eq.1 ht with a | rfl; exact hW t a; exact fun hr => absurd ((yM hE aE _).2 hr) o0), rfl, (n0.put.put.put.put.put.put.put.to aD), h0⟩
     refine wp_exit (wp_seq (aA (sg (aG (aB (wr (bA results160 rfl ?_)))))))
     have hC : ¬ lP p := by rintro ⟨t, ht, hr⟩; exact hW t aE hr
     exact ⟨(fI (by rw [pf0 hM hE hN hC])), h0.bare⟩
    have L := cU (aY K)
    refine rc g 28 Ag.nil.put.put.put [] [(36, .bool true)] [qb 0 rfl 3, qc func47 rfl (fun W s b => cF W p.tasks 1 12), qk D, qb 0 rfl 4, ql B, qk G, qb 0 rfl 0, qc func47 rfl (fun W s b => cF W p.prio 0 9), qk H, qb 0 rfl 1, qc func47 rfl (fun W s b => cF W p.most 1 5), qk K] aD fun a c d j q => (aB (gY (d.at 36) rfl (wp_seq (aA (sg (aG (aB (wr (bA results160 rfl ?_)))))))))
    exact ⟨(fI (by rw [pf1 (by unfold dE; omega)])), j.bare⟩
   have J := cU (aY H)
   refine rc g 28 Ag.nil.put.put.put [] [(36, .bool true)] [qb 0 rfl 3, qc func47 rfl (fun W s b => cF W p.tasks 1 12), qk D, qb 0 rfl 4, ql B, qk G, qb 0 rfl 0, qc func47 rfl (fun W s b => cF W p.prio 0 9), qk H] aD fun a c d j q => (aB (gY (d.at 36) rfl (wp_seq (aA (sg (aG (aB (wr (bA results160 rfl ?_)))))))))
   exact ⟨(fI (by rw [pf1 (by unfold dE; omega)])), j.bare⟩
  have G := decide_eq_true F
  refine rc g 28 Ag.nil.put.put.put [] [(36, .bool true)] [qb 0 rfl 3, qc func47 rfl (fun W s b => cF W p.tasks 1 12), qk D, qb 0 rfl 4, ql B, qk G] aD fun a c d q z => (aB (gY (d.at 36) rfl (wp_seq (aA (sg (aG (aB (wr (bA results160 rfl ?_)))))))))
  exact ⟨(fI (by rw [pf1 (by unfold dE; omega)])), q.bare⟩
 have E := cU (aY D)
 refine rc g 28 Ag.nil.put.put.put [] [(36, .bool true)] [qb 0 rfl 3, qc func47 rfl (fun W s b => cF W p.tasks 1 12), qk D] aD fun a c d j z => (aB (gY (d.at 36) rfl (wp_seq (aA (sg (aG (aB (wr (bA results160 rfl ?_)))))))))
 exact ⟨(fI (by rw [pf1 (by unfold dE; omega)])), j.bare⟩
theorem mQ {p : Plan} (hc : Shape.C w cs p fp) :
  Calls prog 155 #[.agg cs.toArray] w (rI_ (bM p) w) := by
 refine cN func155 rfl ntmps155 aZ (wp_seq (aA (sg (aI (cs := cs) rfl (St.start w) ?_)))); intro a c d g
 refine sg (aG (aB (wp_seq (wp_seq (aA (rc g 2 Ag.nil.put.put.put [] [(8, .bool (pB (dE p)))] [qw 0 rfl (Shape.len hc), qc func212 rfl (fun W s b => ManyS W (aR hc s.below))] aD fun f9 n q z c => (aB (bZ (q.at 8) (fun d => ?_) (fun d => ?_)))))))))
 ·refine wp_seq (aA (sg (aG (aB (wr (bA results155 rfl ?_))))))
  exact ⟨(fI (by rw [pf1 (pB_iff.1 (by assumption))])), z.bare⟩
 refine wp_skip (wp_seq (wp_seq (aA ?_)))
 have hM : ¬ dE p := fun hm => by rw [oX hm] at d; cases d
 have hMb := pM hM
 refine sg (aG (aB (wp_block (bF (fun (m : Nat) (f : Nat → Value) (W : World) => ∃ (k : Nat), k ≤ p.edges.length ∧ EdgesIn p.tasks.toNat (p.edges.take k) ∧ m = p.edges.length - k ∧ Ag [(1, pt_ a), (3, I (k : Int))] f ∧ St w W ([Res.bx a cs 106])) (p.edges.length - 0) ?_ ?_))))
 ·exact ⟨0, aE, EdgesIn.nil, rfl, (q.put.to aD), z⟩
 intro c d g n
 obtain ⟨k, hk, hEk, rfl, A, B⟩ := n
 refine wp_seq (wp_seq (aA ?_))
 have D := hc
 obtain ⟨E, F, rfl, G, H, rfl⟩ := D
 refine rn B 5 A [] [(13, .bool (decide ((k : Int) < (p.edges.length : Int))))] [qb 0 rfl 4, ql H, .o] aD fun c J => (aB (aP (J.at 13) (fun d => ?_) (fun d => ?_)))
 ·refine wp_skip (wp_seq (wp_block (wp_seq ?_)))
  have K : k < p.edges.length := aE
  rcases bd (!(inB (p.edges[k]'K).from_ 0 (p.tasks - 1))) with L | L
  ·have M := inB_iff'.1 (aX L)
   have K : k < p.edges.length := aE
   have N := idx H (i := k) K
   obtain ⟨c, d, g, n, O, P, q, z⟩ := N
   have R := q
   obtain ⟨S, rfl, A⟩ := R
   have S : _ = [I (p.edges[k]'K).from_, I (p.edges[k]'K).to_] := S
   subst S
   refine rd B J [] [(39, .bool (!(inB (p.edges[k]'K).to_ 0 (p.tasks - 1))))] [qb 0 rfl 4, qx O, qr P 0, qb 0 rfl 3, qsb p.tasks 1, qc (args := [I (p.edges[k]'K).from_, I 0, I (p.tasks - 1)]) (v := .bool (inB (p.edges[k]'K).from_ 0 (p.tasks - 1))) func43 rfl (fun W s b => cR W (p.edges[k]'K).from_ 0 (p.tasks - 1)), qk L, qb 0 rfl 4, qx O, qr P 1, qb 0 rfl 3, qsb p.tasks 1, qc (args := [I (p.edges[k]'K).to_, I 0, I (p.tasks - 1)]) (v := .bool (inB (p.edges[k]'K).to_ 0 (p.tasks - 1))) func43 rfl (fun W s b => cR W (p.edges[k]'K).to_ 0 (p.tasks - 1)), .o] aD aD fun c d g n q => (bZ (g.at 39) (fun z => ?_) (fun z => ?_))
   ·have A := cU (aY z)
    refine wp_seq (aA (sg (aG (aB (wr (bA results155 rfl ?_))))))
    have hnE : ¬ EdgesIn p.tasks.toNat p.edges := fun hE => by have hea := hE.at (k := k) aE; omega
    exact ⟨(fI (by rw [pf2 hM hnE])), n.bare⟩
   have A := inB_iff'.1 (aX z)
   refine wp_skip (aA (sg (aH (g.at 3) (sg (bO rfl rfl dL (sg (aF (v := I ((k : Int) + 1)) rfl (aB ?_))))))))
   exact ⟨_, p.edges.length - (k + 1), aE, rfl, k + 1, aE, (hEk.step aE aE), rfl, (g.put.put.put.to aD), n⟩
  have M := cU (aY L)
  have K : k < p.edges.length := aE
  have N := idx H (i := k) K
  obtain ⟨c, d, q, z, T, U, A, D⟩ := N
  have X := A
  obtain ⟨Y, rfl, F⟩ := X
  have Y : _ = [I (p.edges[k]'K).from_, I (p.edges[k]'K).to_] := Y
  subst Y
  refine rd B J [] [(39, .bool true)] [qb 0 rfl 4, qx T, qr U 0, qb 0 rfl 3, qsb p.tasks 1, qc (args := [I (p.edges[k]'K).from_, I 0, I (p.tasks - 1)]) (v := .bool (inB (p.edges[k]'K).from_ 0 (p.tasks - 1))) func43 rfl (fun W s b => cR W (p.edges[k]'K).from_ 0 (p.tasks - 1)), qk L] aD aD fun c d g n q => (gY (g.at 39) rfl (wp_seq (aA (sg (aG (aB (wr (bA results155 rfl ?_))))))))
  have hnE : ¬ EdgesIn p.tasks.toNat p.edges := fun hE => by have hea := hE.at (k := k) aE; omega
  exact ⟨(fI (by rw [pf2 hM hnE])), n.bare⟩
 refine wp_exit (wp_seq (wp_seq (aA ?_)))
 have hE : EdgesIn p.tasks.toNat p.edges := by rw [show k = p.edges.length by omega, take_length] at hEk; exact hEk
 refine sg (aG (aB (wp_block (bF (fun (m : Nat) (f : Nat → Value) (W : World) => ∃ (Z : Nat), Z ≤ p.edges.length ∧ (p.edges.take Z).Nodup ∧ m = p.edges.length - Z ∧ Ag [(1, pt_ a), (4, I (Z : Int))] f ∧ St w W ([Res.bx a [I p.prio, I p.most, I p.wait, I p.tasks, E] 106])) (p.edges.length - 0) ?_ ?_))))
 ·exact ⟨0, aE, nodup_nil, rfl, (J.put.to aD), B⟩
 intro c d g n
 obtain ⟨Z, q, hNk, rfl, z, a0⟩ := n
 refine wp_seq (wp_seq (aA (rn a0 5 z [] [(44, .bool (decide ((Z : Int) < (p.edges.length : Int))))] [qb 0 rfl 4, ql H, .o] aD fun A b0 => (aB (aP (b0.at 44) (fun D => ?_) (fun D => ?_))))))
 ·refine wp_skip (wp_seq (wp_block (wp_seq (aA (sg (aG (aB (wp_block (bF (fun (m : Nat) (f : Nat → Value) (W : World) => ∃ (j : Nat), j ≤ Z ∧ (p.edges[Z]'(by omega)) ∉ p.edges.take j ∧ m = Z - j ∧ Ag [(1, pt_ a), (4, I (Z : Int)), (5, I (j : Int))] f ∧ St w W ([Res.bx a [I p.prio, I p.most, I p.wait, I p.tasks, E] 106])) (Z - 0) ?_ ?_)))))))))
  ·exact ⟨0, aE, (by simp), rfl, (b0.put.to aD), a0⟩
  intro c d g n
  obtain ⟨j, hj, c0, rfl, q, e0⟩ := n
  refine wp_seq (wp_seq (aA (rn e0 3 q [] [(49, .bool (decide ((j : Int) < (Z : Int))))] [.o] aD fun z f0 => (aB (aP (f0.at 49) (fun A => ?_) (fun A => ?_))))))
  ·refine wp_skip (wp_seq (wp_block (wp_seq ?_)))
   have g0 : Z < p.edges.length := aE
   have N := idx H (i := Z) g0
   obtain ⟨c, d, g, n, h0, j0, q, B⟩ := N
   have k0 := q
   obtain ⟨l0, rfl, z⟩ := k0
   have l0 : _ = [I (p.edges[Z]'g0).from_, I (p.edges[Z]'g0).to_] := l0
   subst l0
   have m0 : j < p.edges.length := aE
   have N := idx H (i := j) m0
   obtain ⟨c, d, g, n, n0, o0, A, B⟩ := N
   have p0 := A
   obtain ⟨q0, rfl, q⟩ := p0
   have q0 : _ = [I (p.edges[j]'m0).from_, I (p.edges[j]'m0).to_] := q0
   subst q0
   refine rk 10 e0 f0 [] [(56, .agg #[I (p.edges[Z]'g0).from_, I (p.edges[Z]'g0).to_]), (61, .agg #[I (p.edges[j]'m0).from_, I (p.edges[j]'m0).to_])] [qb 0 rfl 4, qx h0, qr j0 0, qb 0 rfl 4, qx n0, qr o0 0] aD aD fun c d g n q => (sg (aD9 (aB5 (p.edges[Z]'g0) (p.edges[j]'m0)) aC9 (g.at 56) (g.at 61) (aB (bZ rfl (fun z => ?_) (fun z => ?_)))))
   ·refine wp_seq (aA (sg (aG (aB (wr (bA results155 rfl ?_))))))
    have hnN : ¬ p.edges.Nodup := sR (k := Z) aE (by rw [eqB_iff.1 z]; exact uW aE aE)
    exact ⟨(fI (by rw [pf3 hM hE hnN])), n.bare⟩
   refine wp_skip (aA (rn n 3 g.put [5] [(5, I ((j : Int) + 1))] [qad (j : Int) 1] aD fun c d => (aB ?_)))
   exact ⟨_, Z - (j + 1), aE, rfl, j + 1, aE, (not_mem_take_step aE c0 (fun e => by rw [dN e] at z; cases z)), rfl, (d.to aD), n⟩
  refine wp_exit (aA (sg (aH (f0.at 4) (sg (bO rfl rfl dL (sg (aF (v := I ((Z : Int) + 1)) rfl (aB ?_))))))))
  exact ⟨_, p.edges.length - (Z + 1), aE, rfl, Z + 1, aE, (xA hNk aE (by rw [show j = Z by omega] at c0; exact c0)), rfl, (f0.put.put.put.to aD), e0⟩
 refine wp_exit (wp_seq (wp_seq (aA ?_)))
 have hN : p.edges.Nodup := by rw [show Z = p.edges.length by omega, take_length] at hNk; exact hNk
 refine sg (aG (aB (wp_block (bF (fun (m : Nat) (f : Nat → Value) (W : World) => ∃ (s0 : Nat), s0 ≤ p.tasks.toNat ∧ (∀ t : Nat, t < s0 → ¬ Rch p.edges (t : Int) (t : Int)) ∧ m = p.tasks.toNat - s0 ∧ Ag [(1, pt_ a), (6, I (s0 : Int))] f ∧ St w W ([Res.bx a [I p.prio, I p.most, I p.wait, I p.tasks, E] 106])) (p.tasks.toNat - 0) ?_ ?_))))
 ·exact ⟨0, aE, (fun t ht => absurd ht (Nat.not_lt_zero t)), rfl, (b0.put.to aD), a0⟩
 intro c d g n
 obtain ⟨s0, q, hW, rfl, z, t0⟩ := n
 refine wp_seq (wp_seq (aA (rn t0 4 z [] [(66, .bool (decide ((s0 : Int) < p.tasks)))] [qb 0 rfl 3, .o] aD fun a v0 => (aB (aP (v0.at 66) (fun A => ?_) (fun A => ?_))))))
 ·refine wp_skip (wp_seq (wp_block (wp_seq (aA (sg (aS (cs := [I p.prio, I p.most, I p.wait, I p.tasks, E]) gU rfl (v0.at 1) (t0.get 0 rfl) rfl rfl (sg (aH (v0.at 6) (sg (bN func213 rfl rfl rfl ((FromS g (aR hc t0.below) (s0 : Int) aE aE hE aE).mono ?_))))))))))); rintro _ a ⟨c, d, rfl, n⟩; refine ⟨_, rfl, ?_⟩
  have w0 := St.call t0 n
  refine sg (aH (v0.at 6) ?_)
  have hfl := fromOf_len p.edges p.tasks.toNat (s0 : Int)
  have g : s0 < (oG p.edges p.tasks.toNat (s0 : Int)).length := aE
  have N := idx (aM (w0.get 0 rfl)) (i := s0) g
  obtain ⟨a, c, d, q, x0, y0, n, z⟩ := N
  have z0 := n
  obtain ⟨rfl, rfl, A⟩ := z0
  refine sg (aT sl_boolS rfl x0 rfl rfl (sg (dP ld_bool rfl rfl y0 (Below.refl _ _) (i := 0) rfl rfl (aB (bZ rfl (fun A0 => ?_) (fun A0 => ?_))))))
  ·refine wp_seq (aA (sg (aG (aB (wr (bA results155 rfl ?_))))))
   have hC : lP p := ⟨s0, aE, pB_iff.1 ((zH _).symm.trans A0)⟩
   exact ⟨(fI (by rw [pf4 hM hE hN hC])), w0.bare⟩
  refine wp_skip (aA (sg (aH (v0.at 6) (sg (bO rfl rfl dL (sg (aF (v := I ((s0 : Int) + 1)) rfl (aB ?_))))))))
  exact ⟨_, p.tasks.toNat - (s0 + 1), aE, rfl, s0 + 1, aE, (fun t ht => by rcases Nat.lt_succ_iff_lt_or_eq.1 ht with a | rfl; exact hW t a; exact fun hr => absurd ((zH _).symm.trans A0) (by rw [oX hr]; decide)), rfl, (v0.put.put.put.put.put.put.put.put.put.to aD), w0.f1.d1⟩
 refine wp_exit (wp_seq (aA (sg (aG (aB (wr (bA results155 rfl ?_)))))))
 have hC : ¬ lP p := by rintro ⟨t, ht, hr⟩; exact hW t aE hr
 exact ⟨(fI (by rw [pf0 hM hE hN hC])), t0.bare⟩
end Go.Proofs.YtchnllpegfbleaaGreat
namespace Go.Proofs.YtchnllpegfbleaaGreat
set_option linter.unusedSimpArgs false
set_option linter.unusedVariables false
set_option maxRecDepth 100000
set_option maxHeartbeats 2000000
open Go.RowKit Go.Proofs.Tryz List Go.Sort
theorem Elems.ints_inv {W : World} : ∀ {xs : List Int} {cells : List Value} {fp : List Nat}, Elems W cells xs fp → cells = xs.map I ∧ fp = [] ∧ ∀ x ∈ xs, I64 x
 | [], _, _, ⟨h1, h2⟩ => ⟨h1, h2, by simp⟩
 | x :: xs, _, _, ⟨cs, rest, f1, f2, h1, h2, h3, h4⟩ => by
  obtain ⟨rfl, rfl, hx⟩ := h2
  obtain ⟨rfl, rfl, hxs⟩ := Elems.ints_inv h3
  subst h1 h4
  exact ⟨rfl, rfl, fun y hy => by rcases mem_cons.1 hy with rfl | hy; exact hx; exact hxs y hy⟩
theorem St.sorted {w0 W : World} {rs : List Res} {b off cap : Nat} {xs ys : List Int} {fp : List Nat} (h : St w0 W (Res.own (.slice (some ⟨b, off, none⟩) xs.length cap) xs fp :: rs)) (hne : xs ≠ []) (hl : ys.length = xs.length) (hm : ∀ y ∈ ys, y ∈ xs) (n : Nat) (os : Array Obj) :
  ∃ fp', St w0 (grow (putRow (Value.int .i64) (Sort.ahead W n) b off ys.toArray) os) (Res.own (.slice (some ⟨b, off, none⟩) xs.length cap) ys fp' :: rs) := by
 have hown := h.get 0 rfl
 have hwr := hown.2
 obtain ⟨ao, cap', e, s, t, a⟩ := aM hown
 injection e with d g p
 subst d p
 rcases a with ⟨q, _⟩ | ⟨b', off', f, _, z, rfl, hb, a⟩
 ·exact absurd q hne
 injection z with z
 injection z with A B
 subst A B
 obtain ⟨cells, he, hr⟩ := Elems.of_at off a
 obtain ⟨rfl, rfl, d⟩ := he.ints_inv
 obtain ⟨C, e, hC⟩ := hwr b (by simp)
 have hdr : Holds (Value.int .i64) W b off xs.toArray := by
  intro j hj
  have hj' : j < xs.length := by simpa using hj
  refine ⟨?_, by simp [World.frozen?, hC]⟩
  rw [hr j (I xs[j]) (by simp [hj'])]
  simp [hj']
 have hC' : (grow (putRow (Value.int .i64) (Sort.ahead W n) b off ys.toArray) os).heap[b]? = some (.cells (putCells (Value.int .i64) off ys.toArray C) e (0, 0)) := by
  rw [heap_grow_old _ _ (by simpa using hb)]
  simp [putRow, mapBlock, Sort.ahead, Array.getElem?_modify, hC, onCells]
 refine ⟨[b], h.turn (r' := Res.own _ ys [b]) rfl rfl rfl (by simp [grow]) ?_ ?_ (by simp [Res.own]) (fun c hc => .inl hc)⟩
 ·intro k hk hkn
  have hkb : b ≠ k := fun e => hkn (by simp [Res.own, e])
  rw [heap_grow_old _ _ (by simpa using hk)]
  simp [putRow, mapBlock, Sort.ahead, Array.getElem?_modify, hkb]
 refine ⟨Sl.v ⟨some ⟨b, off, none⟩, cap, by rw [hl], by rw [hl]; exact s, t, .inr ⟨b, off, [], ?_, rfl, rfl, ?_, ?_⟩⟩, ?_⟩
 ·intro a; rw [a] at hl; exact hne (eq_nil_of_length_eq_zero hl.symm)
 ·exact (Array.getElem?_eq_some_iff.1 hC').1
 ·refine (Elems.ints ys (fun y hy => d y (hm y hy))).at off ?_
  intro j u hj
  have hjl : j < ys.length := by have := (gsi_.1 hj).1; simpa using this
  have hu : u = I ys[j] := by simpa [hjl] using hj.symm
  have hc := cell?_putRow (Value.int .i64) (Sort.ahead W n) b off xs.toArray ys.toArray (holds_ahead _ _ _ _ _ _ hdr) (by simp [hl]) j (by simpa using hjl)
  rw [cell?_grow _ _ _ (by simpa using hb)]
  rw [hc, hu]
  simp [hjl]
 intro c hc
 simp at hc; subst hc
 exact ⟨_, _, hC'⟩
end Go.Proofs.YtchnllpegfbleaaGreat
namespace Go.Proofs.YtchnllpegfbleaaGreat
set_option linter.unusedSimpArgs false
set_option linter.unusedVariables false
set_option maxRecDepth 100000
set_option maxHeartbeats 2000000
open Go.RowKit Go.Proofs.Tryz List
open Go.Sort
def lays189_ren : Go.Shelf.Ren := ⟨fun | 189 => 226 | 125 => 240 | 257 => 239 | 128 => 253 | 129 => 254 | 294 => 244 | 295 => 245 | 296 => 246 | 297 => 247 | 298 => 248 | 299 => 249 | 216 => 250 | 300 => 251 | 301 => 252 | 328 => 256 | 329 => 257 | 330 => 258 | 331 => 259 | 332 => 260 | 215 => 261 | 343 => 263 | n => n, fun | 28 => 49 | 3 => 3 | 46 => 232 | 0 => 0 | 51 => 245 | 53 => 247 | 4 => 4 | 183 => 237 | 182 => 236 | 131 => 242 | 5 => 5 | 9 => 9 | 218 => 248 | 222 => 252 | 228 => 255 | 229 => 256 | n => n, fun | n => n⟩
theorem aL5 : Go.Proofs.Lays.n189 prog lays189_ren where
 mixed := by kernel_rfl
 f125 := func240.trans (congrArg some aD)
 f128 := func253.trans (congrArg some aD)
 f129 := func254.trans (congrArg some aD)
 f189 := func226.trans (congrArg some aD)
 f215 := func261.trans (congrArg some aD)
 f216 := func250.trans (congrArg some aD)
 f257 := func239.trans (congrArg some aD)
 f294 := func244.trans (congrArg some aD)
 f295 := func245.trans (congrArg some aD)
 f296 := func246.trans (congrArg some aD)
 f297 := func247.trans (congrArg some aD)
 f298 := func248.trans (congrArg some aD)
 f299 := func249.trans (congrArg some aD)
 f300 := func251.trans (congrArg some aD)
 f301 := func252.trans (congrArg some aD)
 f328 := func256.trans (congrArg some aD)
 f329 := func257.trans (congrArg some aD)
 f330 := func258.trans (congrArg some aD)
 f331 := func259.trans (congrArg some aD)
 f332 := func260.trans (congrArg some aD)
 f343 := func263.trans (congrArg some aD)
 t0 := underlying0
 a0 := Tryz.isAgg0
 z0 := Tryz.sizeOf0
 v0 := Tryz.zeroValue0
 t3 := underlying3
 a3 := Tryz.isAgg3
 z3 := Tryz.sizeOf3
 v3 := Tryz.zeroValue3
 t4 := underlying4
 a4 := Tryz.isAgg4
 z4 := Tryz.sizeOf4
 v4 := Tryz.zeroValue4
 t5 := underlying5
 a5 := Tryz.isAgg5
 z5 := Tryz.sizeOf5
 v5 := Tryz.zeroValue5
 t9 := underlying9
 a9 := Tryz.isAgg9
 z9 := Tryz.sizeOf9
 v9 := Tryz.zeroValue9
 t28 := underlying49
 a28 := Tryz.isAgg49
 z28 := Tryz.sizeOf49
 v28 := Tryz.zeroValue49
 t46 := underlying232
 a46 := Tryz.isAgg232
 z46 := Tryz.sizeOf232
 v46 := Tryz.zeroValue232
 t51 := underlying245
 a51 := Tryz.isAgg245
 z51 := Tryz.sizeOf245
 v51 := Tryz.zeroValue245
 t53 := underlying247
 a53 := Tryz.isAgg247
 z53 := Tryz.sizeOf247
 v53 := Tryz.zeroValue247
 t131 := underlying242
 a131 := Tryz.isAgg242
 z131 := Tryz.sizeOf242
 v131 := Tryz.zeroValue242
 t182 := underlying236
 a182 := Tryz.isAgg236
 z182 := Tryz.sizeOf236
 v182 := Tryz.zeroValue236
 t183 := underlying237
 a183 := Tryz.isAgg237
 z183 := Tryz.sizeOf237
 v183 := Tryz.zeroValue237
 t218 := underlying248
 a218 := Tryz.isAgg248
 z218 := Tryz.sizeOf248
 v218 := Tryz.zeroValue248
 t222 := underlying252
 a222 := Tryz.isAgg252
 z222 := Tryz.sizeOf252
 v222 := Tryz.zeroValue252
 t228 := underlying255
 a228 := Tryz.isAgg255
 z228 := Tryz.sizeOf255
 v228 := Tryz.zeroValue255
 t229 := underlying256
 a229 := Tryz.isAgg256
 z229 := Tryz.sizeOf256
 v229 := Tryz.zeroValue256


theorem aM9 {w0 W : World} {rs : List Res} {v : Value} {xs : List Int} {fp : List Nat} (h : St w0 W (Res.own v xs fp :: rs)) (hn : xs.length ≤ 1000000) :
  Calls prog 226 #[v] W fun e w' => e = .returned (.tuple #[]) ∧ ∃ fp', St w0 w' (Res.own v (dK xs) fp' :: rs) := by
 have hsl := aM (h.get 0 rfl)
 have hwr := (h.get 0 rfl).2
 obtain ⟨ao, cap, rfl, s, t, a⟩ := hsl
 rcases a with ⟨rfl, rfl⟩ | ⟨b, off, f, hne, rfl, rfl, hb, a⟩
 ·refine (Any.slices_Sort_int_none aL5 ao cap W).mono ?_
  rintro e w' ⟨he, rfl⟩
  refine ⟨he, [], ?_⟩
  rw [show dK [] = [] from eq_nil_of_length_eq_zero (qF [])]
  exact h
 obtain ⟨cells, he, hr⟩ := Elems.of_at off a
 obtain ⟨rfl, rfl, s⟩ := he.ints_inv
 obtain ⟨C, e, hC⟩ := hwr b (by simp)
 have hdr : Holds (Value.int .i64) W b off xs.toArray := by
  intro j hj
  have hj' : j < xs.length := by simpa using hj
  refine ⟨?_, by simp [World.frozen?, hC]⟩
  rw [hr j (I xs[j]) (by simp [hj'])]
  simp [hj']
 refine (Any.slices_Sort_int aL5 b off cap xs W hdr hb aE).mono ?_
 rintro e' w' ⟨he', n, os, rfl⟩
 obtain ⟨fp', hst⟩ := h.sorted hne (qF xs) (fun y hy => (mE xs).mem_iff.1 hy) n os
 exact ⟨he', fp', hst⟩

end Go.Proofs.YtchnllpegfbleaaGreat
namespace Go.Proofs.YtchnllpegfbleaaGreat
set_option linter.unusedSimpArgs false
set_option linter.unusedVariables false
set_option maxRecDepth 100000
set_option maxHeartbeats 2000000
open Go.RowKit Go.Proofs.Tryz List
variable (w : World) {cs ds : List Value} {fp gp : List Nat}
theorem aN4 {p : Plan} (hc : Shape.C w cs p fp) (task : Int) (hn : 1 ≤ p.tasks ∧ p.tasks ≤ 12) (hl : p.edges.length ≤ 30) (hE : EdgesIn p.tasks.toNat p.edges) :
  Calls prog 214 #[.agg cs.toArray, I task] w (rS_ (dK (dO p.edges task)) w) := by
 refine bY func214 rfl ntmps214 aZ (wp_seq (aA (sg (aI (cs := cs) rfl (St.start w) ?_)))); intro s t a b
 refine sg (aF (v := .slice none 0 0) rfl (aB (wp_seq (aA (sg (aU (cs := []) (e := 3) dJ (bT cP _) b ?_)))))); intro c d g j
 have j := j.row_empty (α := Int)
 refine sg (aF (v := (.slice (some ⟨c, 0, none⟩) 0 0)) rfl (aB (wp_seq (wp_seq (aA (sg (aG (aB (wp_block (bF (fun (m : Nat) (f : Nat → Value) (W : World) => ∃ (k : Nat) (n : Value), k ≤ p.tasks.toNat ∧ m = p.tasks.toNat - k ∧ Ag [(1, I task), (2, pt_ s), (5, n), (6, I (k : Int))] f ∧ St w W ([Res.row (α := Int) 3 n (fX (dO p.edges task) k) [], Res.bx s cs 106])) (p.tasks.toNat - 0) ?_ ?_))))))))))
 ·exact ⟨0, (.slice (some ⟨c, 0, none⟩) 0 0), (by first | omega | simp), rfl, (Ag.nil.put.put.put.put.put.put.put.to aD), j⟩
 intro t a b d
 obtain ⟨k, n, g, rfl, q, z⟩ := d
 refine wp_seq (wp_seq (aA ?_))
 have A := hc
 obtain ⟨B, D, rfl, E, F, rfl⟩ := A
 refine rn z 4 q [] [(12, .bool (decide ((k : Int) < p.tasks)))] [qb 1 rfl 3, .o] aD fun c G => (aB (aP (G.at 12) (fun t => ?_) (fun t => ?_)))
 ·refine wp_skip (wp_seq (wp_block (wp_seq (aA (sg (aG (aB (wp_block (bF (fun (m : Nat) (f : Nat → Value) (W : World) => ∃ (i : Nat) (H : Value), i ≤ p.edges.length ∧ m = p.edges.length - i ∧ Ag [(1, I task), (2, pt_ s), (5, H), (6, I (k : Int)), (7, I (i : Int))] f ∧ St w W ([Res.row (α := Int) 3 H (fX (dO p.edges task) k ++ nO (p.edges.take i) task (k : Int)) [], Res.bx s [I p.prio, I p.most, I p.wait, I p.tasks, B] 106])) (p.edges.length - 0) ?_ ?_)))))))))
  ·exact ⟨0, n, (by first | omega | simp), rfl, (G.put.to aD), (by have hz := z; rw [show fX (dO p.edges task) k = fX (dO p.edges task) k ++ nO (p.edges.take 0) task (k : Int) from (append_nil _).symm] at hz; exact hz)⟩
  intro s t a b
  obtain ⟨i, H, c, rfl, d, J⟩ := b
  have hol := onesF_len p.edges task (k : Int) i k
  refine wp_seq (wp_seq (aA (rn J 5 d [] [(19, .bool (decide ((i : Int) < (p.edges.length : Int))))] [qb 1 rfl 4, ql F, .o] aD fun g K => (aB (aP (K.at 19) (fun s => ?_) (fun s => ?_))))))
  ·refine wp_skip (wp_seq (wp_block (wp_seq (aA ?_))))
   have L : i < p.edges.length := aE
   have M := idx F (i := i) L
   obtain ⟨t, a, b, c, N, O, d, j⟩ := M
   have P := d
   obtain ⟨R, rfl, g⟩ := P
   have R : _ = [I (p.edges[i]'L).from_, I (p.edges[i]'L).to_] := R
   subst R
   rcases nem ((p.edges[i]'L).from_ = (k : Int)) with s | s
   ·have t := decide_eq_false s
    refine rn J 18 K [] [(39, .bool false)] [qb 1 rfl 4, qx N, qr O 0, qk t] aD fun a b => (aB (kI (b.at 39) rfl (wp_skip (aA (rn J 3 b [7] [(7, I ((i : Int) + 1))] [qad (i : Int) 1] aD fun c d => (aB ?_))))))
    exact ⟨_, p.edges.length - (i + 1), aE, rfl, i + 1, H, aE, rfl, (d.to aD), (by rw [sQ aE (by intro hh_; exact absurd hh_.1 s)]; exact J)⟩
   have t := decide_eq_true s
   refine rn J 18 K [] [(39, .bool (decide ((p.edges[i]'L).to_ = task)))] [qb 1 rfl 4, qx N, qr O 0, qk t, qb 1 rfl 4, qx N, qr O 1, .o] aD fun a b => (aB (aP (b.at 39) (fun c => ?_) (fun c => ?_)))
   ·refine aA (sg (aH (b.at 5) (sg (aH (b.at 6) (sg (aU (cs := [I (k : Int)]) (e := 3) (bR (v := I (k : Int)) rfl dJ) (bG cP _ _ rfl rfl aZ) J ?_)))))); intro s t a d
    refine sg (cA (ys := [(k : Int)]) cP rfl rfl rfl d.f1 (Elems.ic (by simp only [I64]; omega) Elems.i0) (by unfold maxLen; omega) aE ?_); intro g j q
    refine sg (aF (v := g) rfl (aB (aA (rn q 3 b.put.put.put.put.put [7] [(7, I ((i : Int) + 1))] [qad (i : Int) 1] aD fun s t => (aB ?_)))))
    exact ⟨_, p.edges.length - (i + 1), aE, rfl, i + 1, g, aE, rfl, (t.to aD), (by rw [onesF_step_t aE (by constructor <;> assumption), ← append_assoc]; exact q)⟩
   refine wp_skip (aA (rn J 3 b [7] [(7, I ((i : Int) + 1))] [qad (i : Int) 1] aD fun a s => (aB ?_)))
   exact ⟨_, p.edges.length - (i + 1), aE, rfl, i + 1, H, aE, rfl, (s.to aD), (by rw [sQ aE (by intro hh_; exact absurd hh_.2 c)]; exact J)⟩
  refine wp_exit (aA (rn J 3 K [6] [(6, I ((k : Int) + 1))] [qad (k : Int) 1] aD fun t a => (aB ?_)))
  exact ⟨_, p.tasks.toNat - (k + 1), aE, rfl, k + 1, H, aE, rfl, (a.to aD), (by rw [nC]; rw [show i = p.edges.length by omega, take_length] at J; exact J)⟩
 refine wp_exit (wp_seq (aA (sg (aH (G.at 5) (sg (aF (v := n) rfl (aB (wr (bA results214 rfl ?_)))))))))
 obtain rfl : k = p.tasks.toNat := by omega
 rw [zZ (zG hE task)] at z
 have M := z.shut
 obtain ⟨fpz, stz⟩ := M
 exact ⟨_, fpz, rfl, stz.only 0 rfl⟩
theorem BehindE {p : Plan} (hc : Shape.C w cs p fp) (task : Int) (hn : 1 ≤ p.tasks ∧ p.tasks ≤ 12) (hl : p.edges.length ≤ 30) (hE : EdgesIn p.tasks.toNat p.edges) :
  Calls prog 185 #[.agg cs.toArray, I task] w (rS_ (dK (tos p.edges task)) w) := by
 refine bY func185 rfl ntmps185 aZ (wp_seq (aA (sg (aI (cs := cs) rfl (St.start w) ?_)))); intro s t a b
 refine sg (aF (v := .slice none 0 0) rfl (aB (wp_seq (aA (sg (aU (cs := []) (e := 3) dJ (bT cP _) b ?_)))))); intro c d g j
 have j := j.row_empty (α := Int)
 refine sg (aF (v := (.slice (some ⟨c, 0, none⟩) 0 0)) rfl (aB (wp_seq (wp_seq (aA (sg (aG (aB (wp_block (bF (fun (m : Nat) (f : Nat → Value) (W : World) => ∃ (k : Nat) (n : Value), k ≤ p.tasks.toNat ∧ m = p.tasks.toNat - k ∧ Ag [(1, I task), (2, pt_ s), (5, n), (6, I (k : Int))] f ∧ St w W ([Res.row (α := Int) 3 n (fX (tos p.edges task) k) [], Res.bx s cs 106])) (p.tasks.toNat - 0) ?_ ?_))))))))))
 ·exact ⟨0, (.slice (some ⟨c, 0, none⟩) 0 0), (by first | omega | simp), rfl, (Ag.nil.put.put.put.put.put.put.put.to aD), j⟩
 intro t a b d
 obtain ⟨k, n, g, rfl, q, z⟩ := d
 refine wp_seq (wp_seq (aA ?_))
 have A := hc
 obtain ⟨B, D, rfl, E, F, rfl⟩ := A
 refine rn z 4 q [] [(12, .bool (decide ((k : Int) < p.tasks)))] [qb 1 rfl 3, .o] aD fun c G => (aB (aP (G.at 12) (fun t => ?_) (fun t => ?_)))
 ·refine wp_skip (wp_seq (wp_block (wp_seq (aA (sg (aG (aB (wp_block (bF (fun (m : Nat) (f : Nat → Value) (W : World) => ∃ (i : Nat) (H : Value), i ≤ p.edges.length ∧ m = p.edges.length - i ∧ Ag [(1, I task), (2, pt_ s), (5, H), (6, I (k : Int)), (7, I (i : Int))] f ∧ St w W ([Res.row (α := Int) 3 H (fX (tos p.edges task) k ++ nN (p.edges.take i) task (k : Int)) [], Res.bx s [I p.prio, I p.most, I p.wait, I p.tasks, B] 106])) (p.edges.length - 0) ?_ ?_)))))))))
  ·exact ⟨0, n, (by first | omega | simp), rfl, (G.put.to aD), (by have hz := z; rw [show fX (tos p.edges task) k = fX (tos p.edges task) k ++ nN (p.edges.take 0) task (k : Int) from (append_nil _).symm] at hz; exact hz)⟩
  intro s t a b
  obtain ⟨i, H, c, rfl, d, J⟩ := b
  have hol := onesT_len p.edges task (k : Int) i k
  refine wp_seq (wp_seq (aA (rn J 5 d [] [(19, .bool (decide ((i : Int) < (p.edges.length : Int))))] [qb 1 rfl 4, ql F, .o] aD fun g K => (aB (aP (K.at 19) (fun s => ?_) (fun s => ?_))))))
  ·refine wp_skip (wp_seq (wp_block (wp_seq (aA ?_))))
   have L : i < p.edges.length := aE
   have M := idx F (i := i) L
   obtain ⟨t, a, b, c, N, O, d, j⟩ := M
   have P := d
   obtain ⟨R, rfl, g⟩ := P
   have R : _ = [I (p.edges[i]'L).from_, I (p.edges[i]'L).to_] := R
   subst R
   rcases nem ((p.edges[i]'L).from_ = task) with s | s
   ·have t := decide_eq_false s
    refine rn J 18 K [] [(39, .bool false)] [qb 1 rfl 4, qx N, qr O 0, qk t] aD fun a b => (aB (kI (b.at 39) rfl (wp_skip (aA (rn J 3 b [7] [(7, I ((i : Int) + 1))] [qad (i : Int) 1] aD fun c d => (aB ?_))))))
    exact ⟨_, p.edges.length - (i + 1), aE, rfl, i + 1, H, aE, rfl, (d.to aD), (by rw [sP aE (by intro hh_; exact absurd hh_.1 s)]; exact J)⟩
   have t := decide_eq_true s
   refine rn J 18 K [] [(39, .bool (decide ((p.edges[i]'L).to_ = (k : Int))))] [qb 1 rfl 4, qx N, qr O 0, qk t, qb 1 rfl 4, qx N, qr O 1, .o] aD fun a b => (aB (aP (b.at 39) (fun c => ?_) (fun c => ?_)))
   ·refine aA (sg (aH (b.at 5) (sg (aH (b.at 6) (sg (aU (cs := [I (k : Int)]) (e := 3) (bR (v := I (k : Int)) rfl dJ) (bG cP _ _ rfl rfl aZ) J ?_)))))); intro s t a d
    refine sg (cA (ys := [(k : Int)]) cP rfl rfl rfl d.f1 (Elems.ic (by simp only [I64]; omega) Elems.i0) (by unfold maxLen; omega) aE ?_); intro g j q
    refine sg (aF (v := g) rfl (aB (aA (rn q 3 b.put.put.put.put.put [7] [(7, I ((i : Int) + 1))] [qad (i : Int) 1] aD fun s t => (aB ?_)))))
    exact ⟨_, p.edges.length - (i + 1), aE, rfl, i + 1, g, aE, rfl, (t.to aD), (by rw [onesT_step_t aE (by constructor <;> assumption), ← append_assoc]; exact q)⟩
   refine wp_skip (aA (rn J 3 b [7] [(7, I ((i : Int) + 1))] [qad (i : Int) 1] aD fun a s => (aB ?_)))
   exact ⟨_, p.edges.length - (i + 1), aE, rfl, i + 1, H, aE, rfl, (s.to aD), (by rw [sP aE (by intro hh_; exact absurd hh_.2 c)]; exact J)⟩
  refine wp_exit (aA (rn J 3 K [6] [(6, I ((k : Int) + 1))] [qad (k : Int) 1] aD fun t a => (aB ?_)))
  exact ⟨_, p.tasks.toNat - (k + 1), aE, rfl, k + 1, H, aE, rfl, (a.to aD), (by rw [nC]; rw [show i = p.edges.length by omega, take_length] at J; exact J)⟩
 refine wp_exit (wp_seq (aA (sg (aH (G.at 5) (sg (aF (v := n) rfl (aB (wr (bA results185 rfl ?_)))))))))
 obtain rfl : k = p.tasks.toNat := by omega
 rw [zZ (aK4 hE task)] at z
 have M := z.shut
 obtain ⟨fpz, stz⟩ := M
 exact ⟨_, fpz, rfl, stz.only 0 rfl⟩
theorem aA7 {p : Plan} (hc : Shape.C w cs p fp) (task : Int) :
  Calls prog 231 #[.agg cs.toArray, I task] w (rS_ (bK p task) w) := by
 refine bY func231 rfl ntmps231 aZ (wp_seq (aA (sg (aI (cs := cs) rfl (St.start w) ?_)))); intro t a c d
 refine sg (aF (v := .slice none 0 0) rfl (aB (wp_seq (wp_seq (aA (rc d 3 Ag.nil.put.put.put.put [] [(10, .bool (!decide ((bM p) = 0)))] [qw 0 rfl (Shape.len hc), qc func160 rfl (fun W s b => kR W (aR hc s.below)), .o] aD fun f9 g j n a => (aB (cQ (j.at 10) (fun c => ?_) (fun c => ?_)))))))))
 ·refine wp_seq (aA (sg (aF (v := .slice none 0 0) rfl (aB (wr (bA results231 rfl ?_))))))
  have hb : bK p task = [] := by unfold bK; rw [if_neg (by assumption)]
  rw [hb]
  exact ⟨_, [], rfl, (St.own_nil (α := Int) n).only 0 rfl⟩
 refine wp_skip (wp_seq (aA ?_))
 have a : bM p = 0 := by omega
 have q := lI a
 obtain ⟨hM, hE, _, _⟩ := q
 have hMb := pM hM
 refine sg (aF (v := .slice none 0 0) rfl (aB (wp_seq (wp_seq (aA ?_)))))
 have z := hc
 obtain ⟨c, d, rfl, g, A, rfl⟩ := z
 refine rn n 4 j.put [] [(12, c), (13, I (p.edges.length : Int)), (14, I 0)] [qb 0 rfl 4, ql A] aD fun a B => (aB (wp_block ?_))
 have D := n.row_nil (α := Int) 3
 refine bF (fun (m : Nat) (f : Nat → Value) (W : World) => ∃ (k : Nat) (E : Value), k ≤ p.edges.length ∧ m = p.edges.length - k ∧ Ag [(1, I task), (5, E), (12, c), (13, I (p.edges.length : Int)), (14, I (k : Int))] f ∧ St w W ([Res.row (α := Int) 3 E (dO (p.edges.take k) task) [], Res.bx t [I p.prio, I p.most, I p.wait, I p.tasks, c] 106])) (p.edges.length - 0) ?_ ?_
 ·exact ⟨0, (.slice none 0 0), (by first | omega | simp), rfl, (B.to aD), D⟩
 intro a d g j
 obtain ⟨k, E, n, rfl, F, G⟩ := j
 have hfl := uA (p.edges.take k) task
 have htl := length_take_le k p.edges
 refine wp_seq (aA (sg (bU (F.at 14) (F.at 13) (aB (wp_seq (aP rfl (fun t => ?_) (fun t => ?_)))))))
 ·refine wp_skip (wp_seq (wp_block (wp_seq (aA ?_))))
  have H : k < p.edges.length := aE
  have q := idx A (i := k) H
  obtain ⟨a, c, d, g, j, n, z, B⟩ := q
  refine sg (aT kY (F.at 12) j (F.at 14) rfl (sg (cY iJ rfl rfl n G.below (Shape.len z) (sg (aQ lJ G ?_))))); intro t D J K
  refine sgn (aJ (cs := d) iJ z rfl rfl K rfl ?_); intro a L
  refine aB (wp_seq (aA (sg (aN uG rfl ?_))))
  have hea := hE.at (k := k) aE
  have M := z
  obtain ⟨N, rfl, c⟩ := M
  have N : _ = [I (p.edges[k]'H).from_, I (p.edges[k]'H).to_] := N
  subst N
  refine rn L 3 F.put.put.put.put.put [] [(21, .bool (decide ((p.edges[k]'H).to_ = task)))] [qb 0 rfl 1, .o] aD fun t a => (aB (aP (a.at 21) (fun d => ?_) (fun d => ?_)))
  ·refine aA (rn L 3 a [] [(22, E), (24, I (p.edges[k]'H).from_)] [qb 0 rfl 0] aD fun c g => (sg (aU (cs := [I (p.edges[k]'H).from_]) (e := 3) (bR (g.at 24) dJ) (bG cP _ _ rfl rfl aZ) L ?_))); intro t j n z
   refine sg (cA (ys := [(p.edges[k]'H).from_]) cP (g.at 22) rfl rfl z.f2 (Elems.ic (by have := hc; simp only [I64]; omega) Elems.i0) (by unfold maxLen; omega) aE ?_); intro c A B
   refine sg (aF (v := c) rfl (aB (aA (sg (bO (g.at 14) rfl dL (sg (aH (v := I ((k : Int) + 1)) rfl (aB ?_))))))))
   exact ⟨_, p.edges.length - (k + 1), aE, rfl, k + 1, c, aE, rfl, (g.put.put.put.put.put.to aD), (by rw [oF aE d]; exact B.f2.f1.d2)⟩
  refine wp_skip (aA (sg (bO (a.at 14) rfl dL (sg (aH (v := I ((k : Int) + 1)) rfl (aB ?_))))))
  exact ⟨_, p.edges.length - (k + 1), aE, rfl, k + 1, E, aE, rfl, (a.put.put.to aD), (by rw [sX aE d]; exact L.f2.f2.d2)⟩
 refine wp_exit (wp_seq (aA (sg (aH (F.at 5) ?_))))
 have q := G.shut
 obtain ⟨t, c⟩ := q
 refine sg (bC func226 rfl rfl ((aM9 c (by rw [take_of_length_le aE] at hfl; rw [take_of_length_le aE]; omega)).mono ?_)); rintro _ a ⟨rfl, d, O⟩; refine ⟨_, rfl, ?_⟩
 refine aB (wp_seq (aA (sg (aH (F.at 5) (sg (aF (v := E) rfl (aB (wr (bA results231 rfl ?_)))))))))
 obtain rfl : k = p.edges.length := by omega
 rw [take_length] at O
 have hb : bK p task = dK (dO p.edges task) := by unfold bK; rw [if_pos aE]
 rw [hb]
 exact ⟨_, _, rfl, O.only 0 rfl⟩
theorem BehindOfI {p : Plan} (hc : Shape.C w cs p fp) (task : Int) :
  Calls prog 188 #[.agg cs.toArray, I task] w (rS_ (dH p task) w) := by
 refine bY func188 rfl ntmps188 aZ (wp_seq (aA (sg (aI (cs := cs) rfl (St.start w) ?_)))); intro t a c d
 refine sg (aF (v := .slice none 0 0) rfl (aB (wp_seq (wp_seq (aA (rc d 3 Ag.nil.put.put.put.put [] [(10, .bool (!decide ((bM p) = 0)))] [qw 0 rfl (Shape.len hc), qc func160 rfl (fun W s b => kR W (aR hc s.below)), .o] aD fun f9 g j n a => (aB (cQ (j.at 10) (fun c => ?_) (fun c => ?_)))))))))
 ·refine wp_seq (aA (sg (aF (v := .slice none 0 0) rfl (aB (wr (bA results188 rfl ?_))))))
  have hb : dH p task = [] := by unfold dH; rw [if_neg (by assumption)]
  rw [hb]
  exact ⟨_, [], rfl, (St.own_nil (α := Int) n).only 0 rfl⟩
 refine wp_skip (wp_seq (aA ?_))
 have a : bM p = 0 := by omega
 have q := lI a
 obtain ⟨hM, hE, _, _⟩ := q
 have hMb := pM hM
 refine sg (aF (v := .slice none 0 0) rfl (aB (wp_seq (wp_seq (aA ?_)))))
 have z := hc
 obtain ⟨c, d, rfl, g, A, rfl⟩ := z
 refine rn n 4 j.put [] [(12, c), (13, I (p.edges.length : Int)), (14, I 0)] [qb 0 rfl 4, ql A] aD fun a B => (aB (wp_block ?_))
 have D := n.row_nil (α := Int) 3
 refine bF (fun (m : Nat) (f : Nat → Value) (W : World) => ∃ (k : Nat) (E : Value), k ≤ p.edges.length ∧ m = p.edges.length - k ∧ Ag [(1, I task), (5, E), (12, c), (13, I (p.edges.length : Int)), (14, I (k : Int))] f ∧ St w W ([Res.row (α := Int) 3 E (tos (p.edges.take k) task) [], Res.bx t [I p.prio, I p.most, I p.wait, I p.tasks, c] 106])) (p.edges.length - 0) ?_ ?_
 ·exact ⟨0, (.slice none 0 0), (by first | omega | simp), rfl, (B.to aD), D⟩
 intro a d g j
 obtain ⟨k, E, n, rfl, F, G⟩ := j
 have hfl := aA9 (p.edges.take k) task
 have htl := length_take_le k p.edges
 refine wp_seq (aA (sg (bU (F.at 14) (F.at 13) (aB (wp_seq (aP rfl (fun t => ?_) (fun t => ?_)))))))
 ·refine wp_skip (wp_seq (wp_block (wp_seq (aA ?_))))
  have H : k < p.edges.length := aE
  have q := idx A (i := k) H
  obtain ⟨a, c, d, g, j, n, z, B⟩ := q
  refine sg (aT kY (F.at 12) j (F.at 14) rfl (sg (cY iJ rfl rfl n G.below (Shape.len z) (sg (aQ lJ G ?_))))); intro t D J K
  refine sgn (aJ (cs := d) iJ z rfl rfl K rfl ?_); intro a L
  refine aB (wp_seq (aA (sg (aN zN rfl ?_))))
  have hea := hE.at (k := k) aE
  have M := z
  obtain ⟨N, rfl, c⟩ := M
  have N : _ = [I (p.edges[k]'H).from_, I (p.edges[k]'H).to_] := N
  subst N
  refine rn L 3 F.put.put.put.put.put [] [(21, .bool (decide ((p.edges[k]'H).from_ = task)))] [qb 0 rfl 0, .o] aD fun t a => (aB (aP (a.at 21) (fun d => ?_) (fun d => ?_)))
  ·refine aA (rn L 3 a [] [(22, E), (24, I (p.edges[k]'H).to_)] [qb 0 rfl 1] aD fun c g => (sg (aU (cs := [I (p.edges[k]'H).to_]) (e := 3) (bR (g.at 24) dJ) (bG cP _ _ rfl rfl aZ) L ?_))); intro t j n z
   refine sg (cA (ys := [(p.edges[k]'H).to_]) cP (g.at 22) rfl rfl z.f2 (Elems.ic (by have := hc; simp only [I64]; omega) Elems.i0) (by unfold maxLen; omega) aE ?_); intro c A B
   refine sg (aF (v := c) rfl (aB (aA (sg (bO (g.at 14) rfl dL (sg (aH (v := I ((k : Int) + 1)) rfl (aB ?_))))))))
   exact ⟨_, p.edges.length - (k + 1), aE, rfl, k + 1, c, aE, rfl, (g.put.put.put.put.put.to aD), (by rw [rH aE d]; exact B.f2.f1.d2)⟩
  refine wp_skip (aA (sg (bO (a.at 14) rfl dL (sg (aH (v := I ((k : Int) + 1)) rfl (aB ?_))))))
  exact ⟨_, p.edges.length - (k + 1), aE, rfl, k + 1, E, aE, rfl, (a.put.put.to aD), (by rw [vS aE d]; exact L.f2.f2.d2)⟩
 refine wp_exit (wp_seq (aA (sg (aH (F.at 5) ?_))))
 have q := G.shut
 obtain ⟨t, c⟩ := q
 refine sg (bC func226 rfl rfl ((aM9 c (by rw [take_of_length_le aE] at hfl; rw [take_of_length_le aE]; omega)).mono ?_)); rintro _ a ⟨rfl, d, O⟩; refine ⟨_, rfl, ?_⟩
 refine aB (wp_seq (aA (sg (aH (F.at 5) (sg (aF (v := E) rfl (aB (wr (bA results188 rfl ?_)))))))))
 obtain rfl : k = p.edges.length := by omega
 rw [take_length] at O
 have hb : dH p task = dK (tos p.edges task) := by unfold dH; rw [if_pos aE]
 rw [hb]
 exact ⟨_, _, rfl, O.only 0 rfl⟩
def cW (ts : List Task) (s : Int) : Int := ((ts.filter (fun t => decide (t.state = s))).length : Int)
def fK (ts : List Task) : List Int := [cW ts 0, cW ts 1, cW ts 2, cW ts 3, cW ts 4, cW ts 5, cW ts 6]
theorem eE (ts : List Task) (s : Int) : 0 ≤ cW ts s := by unfold cW; omega
theorem oN (ts : List Task) (s : Int) : cW ts s ≤ ts.length := by
 unfold cW
 have := length_filter_le (fun t : Task => decide (t.state = s)) ts
 omega
theorem zU {ts : List Task} {k : Nat} (hk : k < ts.length) (s : Int) : cW (ts.take (k + 1)) s = cW (ts.take k) s + (if ts[k].state = s then 1 else 0) := by
 unfold cW
 rw [take_succ_eq_append_getElem hk, filter_append]
 by_cases h : ts[k].state = s <;> simp [h]
theorem tI (ts : List Task) : (fK ts).length = 7 := rfl
theorem cnts_nil : fK [] = [0, 0, 0, 0, 0, 0, 0] := rfl
theorem cnts_set {ts : List Task} {k : Nat} (hk : k < ts.length) (h : 1 ≤ ts[k].state ∧ ts[k].state ≤ 6) (hl : ts[k].state.toNat < (fK (ts.take k)).length) :
  (fK (ts.take k)).set ts[k].state.toNat ((fK (ts.take k))[ts[k].state.toNat]'hl + 1) = fK (ts.take (k + 1)) := by
 have hc : ts[k].state = 1 ∨ ts[k].state = 2 ∨ ts[k].state = 3 ∨ ts[k].state = 4 ∨ ts[k].state = 5 ∨ ts[k].state = 6 := by omega
 have e : fK (ts.take (k + 1)) = [cW (ts.take k) 0 + (if ts[k].state = 0 then 1 else 0), cW (ts.take k) 1 + (if ts[k].state = 1 then 1 else 0), cW (ts.take k) 2 + (if ts[k].state = 2 then 1 else 0), cW (ts.take k) 3 + (if ts[k].state = 3 then 1 else 0), cW (ts.take k) 4 + (if ts[k].state = 4 then 1 else 0), cW (ts.take k) 5 + (if ts[k].state = 5 then 1 else 0), cW (ts.take k) 6 + (if ts[k].state = 6 then 1 else 0)] := by
  unfold fK
  simp only [zU hk]
 rw [e]
 generalize ts[k].state = s at hc hl ⊢
 rcases hc with rfl | rfl | rfl | rfl | rfl | rfl <;> simp [fK]
theorem cnts_rng (ts : List Task) (i : Nat) (h : i < (fK ts).length) : 0 ≤ (fK ts)[i] ∧ (fK ts)[i] ≤ ts.length := by
 have hm : (fK ts)[i] ∈ fK ts := getElem_mem h
 generalize (fK ts)[i] = y at hm
 simp only [fK, mem_cons, not_mem_nil, or_false] at hm
 rcases hm with rfl | rfl | rfl | rfl | rfl | rfl | rfl <;> exact ⟨eE _ _, oN _ _⟩
theorem aM4 : ∀ {ts : List Task}, (∀ t ∈ ts, 1 ≤ t.state ∧ t.state ≤ 6) → cW ts 1 + cW ts 2 + cW ts 3 + cW ts 4 + cW ts 5 + cW ts 6 = ts.length
 | [], _ => rfl
 | t :: ts, h => by
  have ih := aM4 (ts := ts) (fun x hx => h x (by simp [hx]))
  have ht := h t (by simp)
  have hs : ∀ s : Int, cW (t :: ts) s = cW ts s + (if t.state = s then 1 else 0) := by
   intro s
   unfold cW
   by_cases hh : t.state = s <;> simp [hh]
  simp only [hs, length_cons]
  have hc : t.state = 1 ∨ t.state = 2 ∨ t.state = 3 ∨ t.state = 4 ∨ t.state = 5 ∨ t.state = 6 := by omega
  rcases hc with e | e | e | e | e | e <;> simp [e] <;> omega
theorem uN (ts : List Task) (s : Int) : ∀ k, k ≤ ts.length → ((iG ts s k).length : Int) = cW (ts.take k) s
 | 0, _ => rfl
 | k + 1, h => by
  have ih := uN ts s k aE
  have hk : k < ts.length := by omega
  rw [zU hk]
  by_cases hh : ts[k].state = s
  ·rw [pZ hk hh, length_append, if_pos hh, length_singleton]; omega
  rw [tO hk hh, if_neg hh]; omega
theorem kX (ts : List Task) (s : Int) : ((bI ts s).length : Int) = cW ts s := by
 have := uN ts s ts.length (Nat.le_refl _)
 rwa [take_length] at this
def eN (ts : List Task) : Int :=
 if cW ts 4 = ts.length then 2 else if cW ts 5 = 1 ∧ cW ts 1 + cW ts 2 + cW ts 3 = 0 then 3 else if cW ts 5 = 0 ∧ 0 < cW ts 6 ∧ cW ts 1 + cW ts 2 + cW ts 3 = 0 then 4 else if cW ts 5 = 0 ∧ cW ts 6 = 0 then 1 else 0
def oE (r : Run) (x : Int) : Bool := match r.tasks[x.toNat]? with | some t => decide (t.state = 4) | none => false
def fL (r : Run) (l : List Int) : Int := ((l.filter (fun b => !oE r b)).length : Int)
noncomputable def jU (r : Run) (task : Int) : Int := fL r (bK r.plan task)
theorem mX {r : Run} {l : List Int} {k : Nat} (hk : k < l.length) : fL r (l.take (k + 1)) = fL r (l.take k) + (if oE r l[k] then 0 else 1) := by
 unfold fL
 rw [take_succ_eq_append_getElem hk, filter_append]
 cases h : oE r l[k] <;> simp [h]
theorem rP (r : Run) (l : List Int) : 0 ≤ fL r l ∧ fL r l ≤ l.length := by
 unfold fL
 have := length_filter_le (fun b => !oE r b) l
 omega
def iH (r : Run) (need : Int) (t : Task) : Prop :=
 (1 ≤ t.state ∧ t.state ≤ 6) ∧ t.need = need ∧ (0 ≤ t.try_ ∧ t.try_ ≤ r.plan.most) ∧ (t.state = 3 → 1 ≤ t.until_ ∧ t.until_ ≤ 1000000000) ∧ (¬ t.state = 3 → t.until_ = 0) ∧
 (t.state = 1 → 0 < need) ∧ (t.state = 2 → need = 0 ∧ t.try_ < r.plan.most) ∧ ((t.state = 3 ∨ t.state = 4 ∨ t.state = 5) → need = 0 ∧ 1 ≤ t.try_)
def lM (r : Run) (k : Nat) : Prop := ∀ h : k < r.tasks.length, iH r (jU r (k : Int)) r.tasks[k]
noncomputable def gI (r : Run) : Bool := pB ((1 ≤ r.id ∧ r.id ≤ 9999) ∧ bM r.plan = 0 ∧ (r.tasks.length : Int) = r.plan.tasks ∧ (∀ k, k < r.tasks.length → lM r k) ∧ r.state = eN r.tasks ∧ ¬ r.state = 0)
theorem qN {r : Run} {x : Int} (h : x.toNat < r.tasks.length) : oE r x = decide (r.tasks[x.toNat].state = 4) := by
 unfold oE; rw [getElem?_eq_getElem h]
theorem aP0 {n a b : Int} : inB n a b = false ↔ ¬ (a ≤ n ∧ n ≤ b) := by rw [← inB_iff', Bool.not_eq_true]
theorem vC {p : Prop} {b : Bool} (h : p ↔ b = true) : pB p = b := by cases b <;> simp_all [pB]
theorem vL {r : Run} {b : Bool} (h1 : (1 ≤ r.id ∧ r.id ≤ 9999) ∧ bM r.plan = 0 ∧ (r.tasks.length : Int) = r.plan.tasks) (h4 : ∀ k, k < r.tasks.length → lM r k) (h : (r.state = eN r.tasks ∧ ¬ r.state = 0) ↔ b = true) : gI r = b := by
 unfold gI; exact vC ⟨fun hz => h.1 hz.2.2.2.2, fun hb => ⟨h1.1, h1.2.1, h1.2.2, h4, h.2 hb⟩⟩
theorem rk_ {P : Prop} (h : P := by (simp only [Bool.and_eq_true, Bool.or_eq_true, Bool.not_eq_true', Bool.or_eq_false_iff, Bool.and_eq_false_iff, Bool.not_eq_false', decide_eq_true_eq, decide_eq_false_iff_not, inB_iff', aP0] at *; omega)) : P := h
theorem tk_ {P : Prop} (h : P := by (unfold iH; simp only [Bool.and_eq_true, Bool.or_eq_true, Bool.not_eq_true', Bool.or_eq_false_iff, Bool.and_eq_false_iff, Bool.not_eq_false', decide_eq_true_eq, decide_eq_false_iff_not, inB_iff', aP0] at *; omega)) : P := h
theorem aJ5 {p : Prop} (h : pB p = false) : ¬ p := fun hp => by rw [oX hp] at h; cases h
theorem rA (ts : List Task) : (cW ts 4 = ts.length → eN ts = 2) ∧ (¬ cW ts 4 = ts.length → (cW ts 5 = 1 ∧ cW ts 1 + cW ts 2 + cW ts 3 = 0) → eN ts = 3) ∧
  (¬ cW ts 4 = ts.length → ¬ (cW ts 5 = 1 ∧ cW ts 1 + cW ts 2 + cW ts 3 = 0) → (cW ts 5 = 0 ∧ 0 < cW ts 6 ∧ cW ts 1 + cW ts 2 + cW ts 3 = 0) → eN ts = 4) ∧
  (¬ cW ts 4 = ts.length → ¬ (cW ts 5 = 1 ∧ cW ts 1 + cW ts 2 + cW ts 3 = 0) → ¬ (cW ts 5 = 0 ∧ 0 < cW ts 6 ∧ cW ts 1 + cW ts 2 + cW ts 3 = 0) → (cW ts 5 = 0 ∧ cW ts 6 = 0) → eN ts = 1) ∧
  (¬ cW ts 4 = ts.length → ¬ (cW ts 5 = 1 ∧ cW ts 1 + cW ts 2 + cW ts 3 = 0) → ¬ (cW ts 5 = 0 ∧ 0 < cW ts 6 ∧ cW ts 1 + cW ts 2 + cW ts 3 = 0) → ¬ (cW ts 5 = 0 ∧ cW ts 6 = 0) → eN ts = 0) := by
 unfold eN
 refine ⟨fun h => by rw [if_pos h], fun h s => by rw [if_neg h, if_pos s], fun h s t => by rw [if_neg h, if_neg s, if_pos t], fun h s t a => by rw [if_neg h, if_neg s, if_neg t, if_pos a], fun h s t a => by rw [if_neg h, if_neg s, if_neg t, if_neg a]⟩
theorem states_of {r : Run} (h : ∀ j, j < r.tasks.length → lM r j) : ∀ t ∈ r.tasks, 1 ≤ t.state ∧ t.state ≤ 6 := by
 intro t ht
 obtain ⟨k, hk, rfl⟩ := getElem_of_mem ht
 exact (h k hk hk).1
theorem uI (ts : List Task) (i : Nat) (h : i < (fK ts).length) : (fK ts)[i] = cW ts (i : Int) := by
 rw [tI] at h
 rcases i with _ | _ | _ | _ | _ | _ | _ | i
 ·rfl
 ·rfl
 ·rfl
 ·rfl
 ·rfl
 ·rfl
 ·rfl
 omega

theorem aN1 {r : Run} (hc : Shape.C w cs r fp) (task : Int) (hlen : (r.tasks.length : Int) = r.plan.tasks) :
  Calls prog 217 #[.agg cs.toArray, I task] w (rI_ (jU r task) w) := by
 refine bY func217 rfl ntmps217 aZ (wp_seq (aA (sg (aI (cs := cs) rfl (St.start w) ?_)))); intro s t a b
 refine sg (aG (aB (wp_seq (aA (sg (aG (aB (wp_seq (wp_seq (aA ?_))))))))))
 have c := hc
 obtain ⟨d, g, j, p, rfl, q, z, A, rfl⟩ := c
 refine rn b 3 Ag.nil.put.put.put.put.put [] [(9, .agg #[I r.plan.prio, I r.plan.most, I r.plan.wait, I r.plan.tasks, d]), (10, I task)] [qb 0 rfl 1] aD fun f12 a => (sg (bN func231 rfl (a.at 9) (a.at 10) ((aA7 t (show Shape.C _ [I r.plan.prio, I r.plan.most, I r.plan.wait, I r.plan.tasks, d] r.plan _ from ⟨_, _, rfl, fF, (z.below b.below), rfl⟩) task).mono ?_))); rintro _ c ⟨j, p, rfl, q⟩; refine ⟨_, rfl, ?_⟩
 have B := St.call b q
 refine sg (eY eG rfl (aM (B.get 0 rfl)) ?_)
 have hbl := jW r.plan task
 refine sg (aH (v := I 0) rfl (aB (wp_block (bF (fun (m : Nat) (f : Nat → Value) (W : World) => ∃ (k : Nat), k ≤ (bK r.plan task).length ∧ m = (bK r.plan task).length - k ∧ Ag [(2, pt_ s), (5, I (fL r ((bK r.plan task).take k))), (11, j), (12, I ((bK r.plan task).length : Int)), (13, I (k : Int))] f ∧ St w W ([Res.own (α := List Int) j (bK r.plan task) p, Res.bx s [I r.id, I r.plan.prio, I r.plan.most, I r.plan.wait, I r.plan.tasks, d, I r.state, g] 123])) ((bK r.plan task).length - 0) ?_ ?_))))
 ·exact ⟨0, aE, rfl, (a.put.put.put.to aD), B⟩
 intro t b c q
 obtain ⟨k, hk, rfl, D, E⟩ := q
 have hnr := rP r ((bK r.plan task).take k)
 have htl := length_take_le k (bK r.plan task)
 refine wp_seq (aA (sg (bU (D.at 13) (D.at 12) (aB (wp_seq (aP rfl (fun s => ?_) (fun s => ?_)))))))
 ·refine wp_skip (wp_seq (wp_block (wp_seq (aA ?_))))
  have F : k < (bK r.plan task).length := aE
  have G := idx (aM (E.get 0 rfl)) (i := k) F
  obtain ⟨t, a, b, c, H, J, d, j⟩ := G
  have K := d
  obtain ⟨rfl, rfl, s⟩ := K
  refine rn E 3 D.put [] [(7, I ((bK r.plan task)[k]'F))] [qx H, qn J 0] aD fun p q => (aB (wp_seq (aA (rn E 3 q [] [(18, g), (19, I ((bK r.plan task)[k]'F))] [qb 1 rfl 7] aD fun t L => ?_))))
  have hbr := yE r.plan task _ (getElem_mem (l := (bK r.plan task)) (n := k) aE)
  have M : (((bK r.plan task)[k]'F)).toNat < r.tasks.length := aE
  have G := idx A (i := (((bK r.plan task)[k]'F)).toNat) M
  obtain ⟨s, a, b, t, N, O, c, d⟩ := G
  have P := c
  obtain ⟨R, rfl, g⟩ := P
  have R : _ = [I (r.tasks[(((bK r.plan task)[k]'F)).toNat]'M).state, I (r.tasks[(((bK r.plan task)[k]'F)).toNat]'M).need, I (r.tasks[(((bK r.plan task)[k]'F)).toNat]'M).try_, I (r.tasks[(((bK r.plan task)[k]'F)).toNat]'M).until_] := R
  subst R
  refine rn E 4 L [] [(23, .bool (!decide ((r.tasks[(((bK r.plan task)[k]'F)).toNat]'M).state = 4)))] [qxe N (e := ((bK r.plan task)[k]'F)) aE, qr O 0, .o] aD fun s t => (aB (cQ (t.at 23) (fun a => ?_) (fun a => ?_)))
  ·refine aA (rn E 3 t [5] [(5, I ((fL r ((bK r.plan task).take k)) + 1))] [qad (fL r ((bK r.plan task).take k)) 1] aD fun b c => (aB (aA (sg (bO (c.at 13) rfl dL ?_)))))
   have hbl := jW r.plan task
   refine sg (aH (v := I ((k : Int) + 1)) rfl (aB ?_))
   exact ⟨_, (bK r.plan task).length - (k + 1), aE, rfl, k + 1, aE, rfl, (Ag.cons (c.at 2) (Ag.cons (Eq.trans (show _ = I ((fL r ((bK r.plan task).take k)) + 1) from (c.at 5)) (congrArg I (by rw [mX aE, qN aE]; simp only [a, decide_true, decide_false, Bool.false_eq_true, if_true, if_false]; try omega))) (Ag.cons (c.at 11) (Ag.cons (c.at 12) (Ag.cons rfl Ag.nil))))), E⟩
  refine wp_skip (aA (sg (bO (t.at 13) rfl dL ?_)))
  have hbl := jW r.plan task
  refine sg (aH (v := I ((k : Int) + 1)) rfl (aB ?_))
  exact ⟨_, (bK r.plan task).length - (k + 1), aE, rfl, k + 1, aE, rfl, (Ag.cons (t.at 2) (Ag.cons (Eq.trans (show _ = I (fL r ((bK r.plan task).take k)) from (t.at 5)) (congrArg I (by rw [mX aE, qN aE]; simp only [a, decide_true, decide_false, Bool.false_eq_true, if_true, if_false]; try omega))) (Ag.cons (t.at 11) (Ag.cons (t.at 12) (Ag.cons rfl Ag.nil))))), E⟩
 refine wp_exit (wp_seq (aA (sg (aH (D.at 5) (sg (aF (v := I (fL r ((bK r.plan task).take k))) rfl (aB (wr (bA results217 rfl ?_)))))))))
 obtain rfl : k = (bK r.plan task).length := by omega
 exact ⟨(fI (by rw [take_length]; rfl)), E.bare⟩
theorem TaskOkI {r : Run} (hc : Shape.C w cs r fp) {k : Nat} (hk : k < r.tasks.length) (hlen : (r.tasks.length : Int) = r.plan.tasks) :
  Calls prog 161 #[.agg cs.toArray, I (k : Int)] w (rB_ (pB (iH r (jU r (k : Int)) (r.tasks[k]'hk))) w) := by
 have hcap : r.tasks.length ≤ 9223372036854775807 := by have t := hc; obtain ⟨a, c, f1, f2, t, hok, d, g, hfp⟩ := t; exact g.len_le
 refine bY func161 rfl ntmps161 aZ (wp_seq (aA (sg (aI (cs := cs) rfl (St.start w) ?_)))); intro j n p q
 refine sg (aG (aB (wp_seq (aA ?_))))
 have z := hc
 obtain ⟨a, c, d, t, rfl, g, A, B, rfl⟩ := z
 have D : k < r.tasks.length := aE
 have E := idx B (i := k) D
 obtain ⟨F, n, p, f10, G, H, J, K⟩ := E
 refine rn q 5 Ag.nil.put.put.put.put [] [(10, .agg p.toArray)] [qb 0 rfl 7, qx G, qrw H (Shape.len J)] aD fun f11 L => (sg (aQ iD q ?_)); intro M t a c
 refine sgn (aJ (cs := p) iI J rfl (L.at 10) c rfl ?_); intro d N
 refine aB (wp_seq (wp_seq ?_))
 rcases bd (!(inB (r.tasks[k]'D).state 1 6)) with O | O
 ·have P := inB_iff'.1 (aX O)
  rcases Decidable.em ((r.tasks[k]'D).need = (jU r (k : Int))) with R | R
  ·have S := gM R
   have T := J
   obtain ⟨U, rfl, t⟩ := T
   have U : _ = [I (r.tasks[k]'D).state, I (r.tasks[k]'D).need, I (r.tasks[k]'D).try_, I (r.tasks[k]'D).until_] := U
   subst U
   refine rd N L.put [] [(31, .bool (!(inB (r.tasks[k]'D).try_ 0 r.plan.most)))] [qb 0 rfl 0, qc (args := [I (r.tasks[k]'D).state, I 1, I 6]) (v := .bool (inB (r.tasks[k]'D).state 1 6)) func47 rfl (fun W s b => cF W (r.tasks[k]'D).state 1 6), qk O, qb 0 rfl 1, qb 1 rfl 0, qc func217 rfl (fun W s b => aN1 W (aR hc s.below) (k : Int) aE), qk S, qb 0 rfl 2, qb 1 rfl 2, qc (args := [I (r.tasks[k]'D).try_, I 0, I r.plan.most]) (v := .bool (inB (r.tasks[k]'D).try_ 0 r.plan.most)) func47 rfl (fun W s b => cF W (r.tasks[k]'D).try_ 0 r.plan.most), .o] aD aD fun t a c d g => (bZ (c.at 31) (fun n => ?_) (fun n => ?_))
   ·have p := cU (aY n)
    refine wp_seq (aA (sg (aG (aB (wr (bA results161 rfl ?_))))))
    exact ⟨(fB (fU tk_).symm), d.bare⟩
   have p := inB_iff'.1 (aX n)
   refine wp_skip (wp_seq (wp_seq (aA (rg d 19 c [] [(50, .bool (((decide ((r.tasks[k]'D).state = 3)) && (!(inB (r.tasks[k]'D).until_ 1 1000000000))) || ((!decide ((r.tasks[k]'D).state = 3)) && (!decide ((r.tasks[k]'D).until_ = 0)))))] [qb 0 rfl 0, .o, qb 0 rfl 3, qc (args := [I (r.tasks[k]'D).until_, I 1, I 1000000000]) (v := .bool (inB (r.tasks[k]'D).until_ 1 1000000000)) func47 rfl (fun W s b => cF W (r.tasks[k]'D).until_ 1 1000000000), .o, qb 0 rfl 0, .o, qb 0 rfl 3, .o] aD fun t a c d g => (aB (bZ (c.at 50) (fun n => ?_) (fun n => ?_)))))))
   ·refine wp_seq (aA (sg (aG (aB (wr (bA results161 rfl ?_))))))
    exact ⟨(fB (fU tk_).symm), d.bare⟩
   refine wp_skip (wp_seq (wp_seq (aA (sg (aN jE (c.at 5) (sg (aW dA rfl rfl (d.get 0 rfl) (i := 0) rfl rfl (aB (wp_block (wp_seq (aA (sg (dC rfl rfl (sg (aF (v := .bool (decide ((r.tasks[k]'D).state = 1))) rfl ?_)))))))))))))))
   refine aB (aP rfl (fun t => ?_) (fun t => ?_))
   ·refine wp_seq (aA (rn d 4 c.put.put.put.put [4] [(4, .bool (decide (0 < (r.tasks[k]'D).need)))] [qb 0 rfl 1, .o] aD fun a g => (aB (wr (bA results161 (g.at 4) ?_)))))
    exact ⟨(fB (vC tk_).symm), d.bare⟩
   refine wp_seq (aA (sg (dC rfl rfl (sg (aF (v := .bool (decide ((r.tasks[k]'D).state = 2))) rfl (aB (aP rfl (fun t => ?_) (fun t => ?_))))))))
   ·refine wp_seq (aA (lw c.put.put.put.put.put.put [(2, pt_ j), (5, pt_ M)] aD fun a => (rg d 12 a [] [(4, .bool ((decide ((r.tasks[k]'D).need = 0)) && (decide ((r.tasks[k]'D).try_ < r.plan.most))))] [qb 0 rfl 1, .o, qb 0 rfl 2, qb 1 rfl 2, .o] aD fun g n p q z => (aB (wr (bA results161 (p.at 4) ?_))))))
    exact ⟨(fB (vC tk_).symm), q.bare⟩
   refine wp_seq (wp_seq (aA (sg (dC rfl rfl (sg (aF (v := .bool (decide ((r.tasks[k]'D).state = 3))) rfl (aB (aP rfl (fun t => ?_) (fun t => ?_)))))))))
   ·have a := decide_eq_true t
    refine wp_skip (gY rfl a (wp_seq (aA (lw c.put.put.put.put.put.put.put.put [(5, pt_ M)] aD fun g => (rg d 9 g [] [(4, .bool ((decide ((r.tasks[k]'D).need = 0)) && (decide (1 ≤ (r.tasks[k]'D).try_))))] [qb 0 rfl 1, .o, qb 0 rfl 2, .o] aD fun j n p q z => (aB (wr (bA results161 (p.at 4) ?_))))))))
    exact ⟨(fB (vC tk_).symm), q.bare⟩
   have a := decide_eq_false t
   refine wp_seq (aA (sg (dC rfl rfl (sg (aF (v := .bool (decide ((r.tasks[k]'D).state = 4))) rfl (aB (aP rfl (fun g => ?_) (fun g => ?_))))))))
   ·have j := decide_eq_true g
    refine wp_skip (gY rfl j (wp_seq (aA (lw c.put.put.put.put.put.put.put.put.put.put [(5, pt_ M)] aD fun t => (rg d 9 t [] [(4, .bool ((decide ((r.tasks[k]'D).need = 0)) && (decide (1 ≤ (r.tasks[k]'D).try_))))] [qb 0 rfl 1, .o, qb 0 rfl 2, .o] aD fun a n p q z => (aB (wr (bA results161 (p.at 4) ?_))))))))
    exact ⟨(fB (vC tk_).symm), q.bare⟩
   have j := decide_eq_false g
   refine aA (sg (dC rfl rfl (sg (aF (v := .bool (decide ((r.tasks[k]'D).state = 5))) rfl (aB (aP rfl (fun t => ?_) (fun t => ?_)))))))
   ·refine wp_seq (aA (lw c.put.put.put.put.put.put.put.put.put.put.put.put [(5, pt_ M)] aD fun a => (rg d 9 a [] [(4, .bool ((decide ((r.tasks[k]'D).need = 0)) && (decide (1 ≤ (r.tasks[k]'D).try_))))] [qb 0 rfl 1, .o, qb 0 rfl 2, .o] aD fun g j n p q => (aB (wr (bA results161 (n.at 4) ?_))))))
    exact ⟨(fB (vC tk_).symm), p.bare⟩
   refine wp_skip (wp_seq (aA (sg (aG (aB (wr (bA results161 rfl ?_)))))))
   exact ⟨(fB (oX tk_).symm), d.bare⟩
  have S := gL R
  have X := J
  obtain ⟨Y, rfl, t⟩ := X
  have Y : _ = [I (r.tasks[k]'D).state, I (r.tasks[k]'D).need, I (r.tasks[k]'D).try_, I (r.tasks[k]'D).until_] := Y
  subst Y
  refine rd N L.put [] [(31, .bool true)] [qb 0 rfl 0, qc (args := [I (r.tasks[k]'D).state, I 1, I 6]) (v := .bool (inB (r.tasks[k]'D).state 1 6)) func47 rfl (fun W s b => cF W (r.tasks[k]'D).state 1 6), qk O, qb 0 rfl 1, qb 1 rfl 0, qc func217 rfl (fun W s b => aN1 W (aR hc s.below) (k : Int) aE), qk S] aD aD fun t a c d g => (gY (c.at 31) rfl (wp_seq (aA (sg (aG (aB (wr (bA results161 rfl ?_))))))))
  exact ⟨(fB (fU tk_).symm), d.bare⟩
 have P := cU (aY O)
 have Z := J
 obtain ⟨a0, rfl, j⟩ := Z
 have a0 : _ = [I (r.tasks[k]'D).state, I (r.tasks[k]'D).need, I (r.tasks[k]'D).try_, I (r.tasks[k]'D).until_] := a0
 subst a0
 refine rd N L.put [] [(31, .bool true)] [qb 0 rfl 0, qc (args := [I (r.tasks[k]'D).state, I 1, I 6]) (v := .bool (inB (r.tasks[k]'D).state 1 6)) func47 rfl (fun W s b => cF W (r.tasks[k]'D).state 1 6), qk O] aD aD fun t a c d g => (gY (c.at 31) rfl (wp_seq (aA (sg (aG (aB (wr (bA results161 rfl ?_))))))))
 exact ⟨(fB (fU tk_).symm), d.bare⟩
theorem yF {r : Run} (hc : Shape.C w cs r fp) :
  Calls prog 97 #[.agg cs.toArray] w (rB_ (gI r) w) := by
 have hcap : r.tasks.length ≤ 9223372036854775807 := by have t := hc; obtain ⟨a, c, f1, f2, t, hok, d, g, hfp⟩ := t; exact g.len_le
 refine cN func97 rfl ntmps97 aZ (wp_seq (aA (sg (aI (cs := cs) rfl (St.start w) ?_)))); intro n p q z
 refine sg (aG (aB (wp_seq (wp_seq (aA ?_)))))
 have A := hc
 obtain ⟨B, D, t, a, rfl, c, g, E, rfl⟩ := A
 refine rg z 19 Ag.nil.put.put.put [] [(26, .bool (((!(inB r.id 1 9999)) || (!decide ((bM r.plan) = 0))) || (!decide ((r.tasks.length : Int) = r.plan.tasks))))] [qb 0 rfl 0, qc func47 rfl (fun W s b => cF W r.id 1 9999), .o, qb 0 rfl 1, qc func160 rfl (fun W s b => kR W (show Shape.C _ [I r.plan.prio, I r.plan.most, I r.plan.wait, I r.plan.tasks, B] r.plan _ from ⟨_, _, rfl, fF, (g.below s.below), rfl⟩)), .o, qb 0 rfl 7, ql E, qb 0 rfl 4, .o] aD fun f10 t a c p => (aB (bZ (a.at 26) (fun q => ?_) (fun q => ?_)))
 ·refine wp_seq (aA (sg (aG (aB (wr (bA results97 rfl ?_))))))
  exact ⟨(fB (by unfold gI; rw [fU (by rintro ⟨g, z, A, F, G, t⟩; exact rk_)])), c.bare⟩
 refine wp_skip (wp_seq (wp_seq (aA ?_)))
 have H : (1 ≤ r.id ∧ r.id ≤ 9999) ∧ bM r.plan = 0 ∧ (r.tasks.length : Int) = r.plan.tasks := rk_
 have hMb := pM (lI (by omega : bM r.plan = 0)).1
 refine rn c 4 a [] [(29, I (r.tasks.length : Int)), (30, I 0)] [qb 0 rfl 7, ql E] aD fun t g => (aB (wp_block (bF (fun (m : Nat) (f : Nat → Value) (W : World) => ∃ (k : Nat), k ≤ r.tasks.length ∧ (∀ j, j < k → lM r j) ∧ m = r.tasks.length - k ∧ Ag [(1, pt_ n), (29, I (r.tasks.length : Int)), (30, I (k : Int))] f ∧ St w W ([Res.bx n [I r.id, I r.plan.prio, I r.plan.most, I r.plan.wait, I r.plan.tasks, B, I r.state, D] 123])) (r.tasks.length - 0) ?_ ?_)))
 ·exact ⟨0, aE, (fun j hj => absurd hj (Nat.not_lt_zero j)), rfl, (g.to aD), c⟩
 intro t a J p
 obtain ⟨k, hk, hT, rfl, K, L⟩ := p
 refine wp_seq (aA (sg (bU (K.at 30) (K.at 29) (aB (wp_seq (aP rfl (fun q => ?_) (fun q => ?_)))))))
 ·refine wp_skip (wp_seq (wp_block (wp_seq (aA (sg (aH (K.at 30) (sg (aF (v := I (k : Int)) rfl (aB (wp_seq (aA (rc L 4 K.put.put.put [] [(36, .bool (!(pB (iH r (jU r (k : Int)) (r.tasks[k]'(by omega))))))] [qb 0 rfl 0, qc (args := [.agg #[I r.id, I r.plan.prio, I r.plan.most, I r.plan.wait, I r.plan.tasks, B, I r.state, D], I (k : Int)]) (v := .bool (pB (iH r (jU r (k : Int)) (r.tasks[k]'(by omega))))) func161 rfl (fun W s b => TaskOkI W (aR hc s.below) (k := k) aE aE), .o] aD fun t a M N c => (aB ?_)))))))))))))
  refine bZ (M.at 36) (fun O => ?_) (fun O => ?_)
  ·refine wp_seq (aA (sg (aG (aB (wr (bA results97 rfl ?_))))))
   exact ⟨(fB (by unfold gI; rw [fU (fun hz => aJ5 (aY O) (hz.2.2.2.1 k aE aE))])), N.bare⟩
  refine wp_skip (aA (sg (bO (M.at 30) rfl dL (sg (aH (v := I ((k : Int) + 1)) rfl (aB ?_))))))
  exact ⟨_, r.tasks.length - (k + 1), aE, rfl, k + 1, aE, (fun j hj => by rcases Nat.lt_succ_iff_lt_or_eq.1 hj with d | rfl; exact hT j d; exact fun _ => pB_iff.1 ((aX O))), rfl, (M.put.put.to aD), N⟩
 refine wp_exit (wp_seq ?_)
 have hTk : ∀ j, j < r.tasks.length → lM r j := by rw [show k = r.tasks.length by omega] at hT; exact hT
 have t := kX r.tasks 4
 have a := kX r.tasks 5
 have c := kX r.tasks 6
 have hsum := aM4 (states_of hTk)
 have hso := rA r.tasks
 have d := eE r.tasks 1
 have g := eE r.tasks 2
 have p := eE r.tasks 3
 have q := eE r.tasks 4
 have z := eE r.tasks 5
 have t := eE r.tasks 6
 refine cK 11 [(some 1, some 2, .of (ι := Value × List Nat) [39] (fun ⟨P, R⟩ => [P]) (fun ⟨P, R⟩ => Res.own (α := List Int) P (bI r.tasks 4) R)), (some 2, none, .of (ι := Value × List Nat) [39] (fun ⟨P, R⟩ => [P]) (fun ⟨P, R⟩ => Res.own (α := List Int) P (bI r.tasks 4) R)), (some 4, some 5, .of (ι := Value × List Nat) [42] (fun ⟨S, T⟩ => [S]) (fun ⟨S, T⟩ => Res.own (α := List Int) S (bI r.tasks 5) T)), (some 5, none, .of (ι := Value × List Nat) [42] (fun ⟨S, T⟩ => [S]) (fun ⟨S, T⟩ => Res.own (α := List Int) S (bI r.tasks 5) T)), (some 7, some 8, .of (ι := Value × List Nat) [45] (fun ⟨U, X⟩ => [U]) (fun ⟨U, X⟩ => Res.own (α := List Int) U (bI r.tasks 6) X)), (some 8, none, .of (ι := Value × List Nat) [45] (fun ⟨U, X⟩ => [U]) (fun ⟨U, X⟩ => Res.own (α := List Int) U (bI r.tasks 6) X))] [(true, .is (.agg #[I r.id, I r.plan.prio, I r.plan.most, I r.plan.wait, I r.plan.tasks, B, I r.state, D])), (false, .ex (fun (P : Value) => P)), (false, .is (I ((bI r.tasks 4).length : Int))), (true, .is (.agg #[I r.id, I r.plan.prio, I r.plan.most, I r.plan.wait, I r.plan.tasks, B, I r.state, D])), (false, .ex (fun (S : Value) => S)), (false, .is (I ((bI r.tasks 5).length : Int))), (true, .is (.agg #[I r.id, I r.plan.prio, I r.plan.most, I r.plan.wait, I r.plan.tasks, B, I r.state, D])), (false, .ex (fun (U : Value) => U)), (false, .is (I ((bI r.tasks 6).length : Int))), (true, .is (I ((bI r.tasks 4).length : Int))), (true, .is (I ((bI r.tasks 5).length : Int)))] mix aD aD aD aD (rs0 := []) rfl L (Below.refl _ _) ⟨(fun f W hst hbl hd hf => aS (cs := [I r.id, I r.plan.prio, I r.plan.most, I r.plan.wait, I r.plan.tasks, B, I r.state, D]) bP rfl ((hf 1 rfl).trans (K.at 1)) (hst.get 0 rfl) rfl rfl brq), ?_, ?_, (fun f W hst hbl hd hf => aS (cs := [I r.id, I r.plan.prio, I r.plan.most, I r.plan.wait, I r.plan.tasks, B, I r.state, D]) bP rfl ((hf 1 rfl).trans (K.at 1)) (hst.get 0 rfl) rfl rfl brq), ?_, ?_, (fun f W hst hbl hd hf => aS (cs := [I r.id, I r.plan.prio, I r.plan.most, I r.plan.wait, I r.plan.tasks, B, I r.state, D]) bP rfl ((hf 1 rfl).trans (K.at 1)) (hst.get 0 rfl) rfl rfl brq), ?_, ?_, (fun f W hst hbl hd hf => aF (v := I ((bI r.tasks 4).length : Int)) (hd 2 40 rfl rfl) brq), (fun f W hst hbl hd hf => aF (v := I ((bI r.tasks 5).length : Int)) (hd 5 43 rfl rfl) brq), trivial⟩ ?_
 ·intro f W ru oth hu hst hbl hd hf
  have Y : ru = [] := hu
  subst Y
  try simp only [cap_, cL] at hst
  refine (bN func162 rfl (hd 0 38 rfl rfl) rfl ((mP W (aR hc hst.below) 4 aE).mono ?_)); rintro _ t ⟨P, R, rfl, a⟩; refine ⟨_, rfl, ?_⟩
  have c := St.call hst a
  exact ⟨⟨P, rfl⟩, ⟨_, ⟨_, _, rfl, ⟨(P, R), (ce rfl rfl), rfl⟩, rfl⟩, c⟩, (hbl.trans (Below.mono a.below hbl.size))⟩
 ·intro f W ru oth hu hst hbl hd hf
  obtain ⟨_, _, rfl, ⟨⟨P, R⟩, t, rfl⟩, Y⟩ := hu
  have Y : _ = [] := Y
  subst Y
  have d : f 39 = P := congrArg (fun l => l.getD 0 undef) t
  try simp only [cap_, cL] at hst
  refine (eY eG d (aM (hst.get 0 rfl)) ?_)
  exact ⟨rfl, ⟨_, ⟨_, _, rfl, ⟨(P, R), (ce d rfl), rfl⟩, rfl⟩, hst⟩, (hbl.trans (Below.mono (Below.refl _ _) hbl.size))⟩
 ·intro f W ru oth hu hst hbl hd hf
  have Y : ru = [] := hu
  subst Y
  try simp only [cap_, cL] at hst
  refine (bN func162 rfl (hd 3 41 rfl rfl) rfl ((mP W (aR hc hst.below) 5 aE).mono ?_)); rintro _ t ⟨S, T, rfl, a⟩; refine ⟨_, rfl, ?_⟩
  have c := St.call hst a
  exact ⟨⟨S, rfl⟩, ⟨_, ⟨_, _, rfl, ⟨(S, T), (ce rfl rfl), rfl⟩, rfl⟩, c⟩, (hbl.trans (Below.mono a.below hbl.size))⟩
 ·intro f W ru oth hu hst hbl hd hf
  obtain ⟨_, _, rfl, ⟨⟨S, T⟩, t, rfl⟩, Y⟩ := hu
  have Y : _ = [] := Y
  subst Y
  have d : f 42 = S := congrArg (fun l => l.getD 0 undef) t
  try simp only [cap_, cL] at hst
  refine (eY eG d (aM (hst.get 0 rfl)) ?_)
  exact ⟨rfl, ⟨_, ⟨_, _, rfl, ⟨(S, T), (ce d rfl), rfl⟩, rfl⟩, hst⟩, (hbl.trans (Below.mono (Below.refl _ _) hbl.size))⟩
 ·intro f W ru oth hu hst hbl hd hf
  have Y : ru = [] := hu
  subst Y
  try simp only [cap_, cL] at hst
  refine (bN func162 rfl (hd 6 44 rfl rfl) rfl ((mP W (aR hc hst.below) 6 aE).mono ?_)); rintro _ t ⟨U, X, rfl, a⟩; refine ⟨_, rfl, ?_⟩
  have c := St.call hst a
  exact ⟨⟨U, rfl⟩, ⟨_, ⟨_, _, rfl, ⟨(U, X), (ce rfl rfl), rfl⟩, rfl⟩, c⟩, (hbl.trans (Below.mono a.below hbl.size))⟩
 ·intro f W ru oth hu hst hbl hd hf
  obtain ⟨_, _, rfl, ⟨⟨U, X⟩, t, rfl⟩, Y⟩ := hu
  have Y : _ = [] := Y
  subst Y
  have d : f 45 = U := congrArg (fun l => l.getD 0 undef) t
  try simp only [cap_, cL] at hst
  refine (eY eG d (aM (hst.get 0 rfl)) ?_)
  exact ⟨rfl, ⟨_, ⟨_, _, rfl, ⟨(U, X), (ce d rfl), rfl⟩, rfl⟩, hst⟩, (hbl.trans (Below.mono (Below.refl _ _) hbl.size))⟩
 intro a c rs_ hAL_ t g p q
 obtain ⟨_, _, rfl, ⟨⟨P, R⟩, z, rfl⟩, _, _, rfl, ⟨⟨S, T⟩, A, rfl⟩, _, _, rfl, ⟨⟨U, X⟩, B, rfl⟩, Y⟩ := hAL_
 have Y : _ = [] := Y
 subst Y
 have d : a 39 = P := congrArg (fun l => l.getD 0 undef) z
 have c : a 42 = S := congrArg (fun l => l.getD 0 undef) A
 have g : a 45 = U := congrArg (fun l => l.getD 0 undef) B
 try simp only [cap_, cL] at t
 refine sg (aF (v := I ((bI r.tasks 6).length : Int)) (p 8 46 aZ rfl) (aB (wp_seq (aA (rg t 10 (Ag.cons (show a 1 = pt_ n from ((q 1 rfl).trans (K.at 1))) (Ag.cons (show a 4 = I ((bI r.tasks 4).length : Int) from (p 9 4 aZ rfl)) (Ag.cons (show a 5 = I ((bI r.tasks 5).length : Int) from (p 10 5 aZ rfl)) Ag.nil))).put [] [(7, .bool (decide (((((bI r.tasks 4).length : Int) + ((bI r.tasks 5).length : Int)) + ((bI r.tasks 6).length : Int)) = (r.tasks.length : Int))))] [qad ((bI r.tasks 4).length : Int) ((bI r.tasks 5).length : Int), qad (((bI r.tasks 4).length : Int) + ((bI r.tasks 5).length : Int)) ((bI r.tasks 6).length : Int), qb 3 rfl 7, ql E, .o] aD fun t a c d g => (aB (wp_seq (wp_block (wp_seq (aA (rn d 6 c [] [(56, .bool (decide (((bI r.tasks 4).length : Int) = (r.tasks.length : Int))))] [qb 3 rfl 7, ql E, .o] aD fun n p => (aB ?_))))))))))))
 refine aP (p.at 56) (fun q => ?_) (fun q => ?_)
 ·refine wp_seq (aA (rg d 4 p [] [(2, .bool (decide (r.state = 2)))] [qb 3 rfl 6, .o] aD fun t a g c z => (aB (wr (bA results97 (g.at 2) ?_)))))
  exact ⟨(fB (vL H hTk rk_).symm), c.bare⟩
 refine wp_seq (aA (rg d 6 p [] [(65, .bool ((decide (((bI r.tasks 5).length : Int) = 1)) && (decide (((((bI r.tasks 4).length : Int) + ((bI r.tasks 5).length : Int)) + ((bI r.tasks 6).length : Int)) = (r.tasks.length : Int)))))] [.o] aD fun t a n q z => (aB (bZ (n.at 65) (fun g => ?_) (fun g => ?_)))))
 ·refine wp_seq (aA (rg q 4 n [] [(2, .bool (decide (r.state = 3)))] [qb 3 rfl 6, .o] aD fun c d p A B => (aB (wr (bA results97 (p.at 2) ?_)))))
  exact ⟨(fB (vL H hTk rk_).symm), A.bare⟩
 refine wp_seq (aA (rg q 10 n [] [(74, .bool (((decide (((bI r.tasks 5).length : Int) = 0)) && (decide (0 < ((bI r.tasks 6).length : Int)))) && (decide (((((bI r.tasks 4).length : Int) + ((bI r.tasks 5).length : Int)) + ((bI r.tasks 6).length : Int)) = (r.tasks.length : Int)))))] [.o, .o] aD fun t a c d g => (aB (bZ (c.at 74) (fun p => ?_) (fun p => ?_)))))
 ·refine wp_seq (aA (rg d 4 c [] [(2, .bool (decide (r.state = 4)))] [qb 3 rfl 6, .o] aD fun n q z A B => (aB (wr (bA results97 (z.at 2) ?_)))))
  exact ⟨(fB (vL H hTk rk_).symm), A.bare⟩
 refine wp_skip (wp_seq (aA (rg d 12 c [] [(2, .bool (((decide (r.state = 1)) && (decide (((bI r.tasks 5).length : Int) = 0))) && (decide (((bI r.tasks 6).length : Int) = 0))))] [qb 3 rfl 6, .o, .o, .o] aD fun t a g n p => (aB (wr (bA results97 (g.at 2) ?_))))))
 exact ⟨(fB (vL H hTk rk_).symm), n.bare⟩
theorem TaskOkS {r : Run} (hc : Shape.C w cs r fp) {k : Nat} (hk : k < r.tasks.length) (hlen : (r.tasks.length : Int) = r.plan.tasks) (hP : bM r.plan = 0) (hs : 1 ≤ (r.tasks[k]'hk).state ∧ (r.tasks[k]'hk).state ≤ 6) :
  Calls prog 156 #[.agg cs.toArray, I (k : Int)] w (rB_ (pB (iH r (jU r (k : Int)) (r.tasks[k]'hk))) w) := by
 have hcap : r.tasks.length ≤ 9223372036854775807 := by have t := hc; obtain ⟨a, c, f1, f2, t, hok, d, g, hfp⟩ := t; exact g.len_le
 refine bY func156 rfl ntmps156 aZ (wp_seq (aA (sg (aI (cs := cs) rfl (St.start w) ?_)))); intro j p q z
 refine sg (aG (aB (wp_seq (aA ?_))))
 have A := hc
 obtain ⟨a, c, d, t, rfl, g, B, D, rfl⟩ := A
 have E : k < r.tasks.length := aE
 have F := idx D (i := k) E
 obtain ⟨G, p, q, f10, H, J, K, L⟩ := F
 refine rn z 5 Ag.nil.put.put.put.put [] [(13, .agg q.toArray)] [qb 0 rfl 7, qx H, qrw J (Shape.len K)] aD fun f11 t => (sg (aQ iD z ?_)); intro M d g A
 refine sgn (aJ (cs := q) iI K rfl (t.at 13) A rfl ?_); intro p G
 refine aB (wp_seq (aA (sg (aG (aB (wp_seq (aA (rn G 3 t.put.put [] [(15, .agg #[I r.plan.prio, I r.plan.most, I r.plan.wait, I r.plan.tasks, a]), (16, I (k : Int))] [qb 1 rfl 1] aD fun d g => ?_))))))))
 have F := lI hP
 obtain ⟨hM, hE, _, _⟩ := F
 have hMb := pM hM
 have hbeq : bK r.plan (k : Int) = (dK (dO r.plan.edges (k : Int))) := by unfold bK; rw [if_pos hP]
 have hbl := jW r.plan (k : Int)
 rw [hbeq] at hbl
 refine sg (bN func214 rfl (g.at 15) (g.at 16) ((aN4 p (show Shape.C _ [I r.plan.prio, I r.plan.most, I r.plan.wait, I r.plan.tasks, a] r.plan _ from ⟨_, _, rfl, fF, (B.below G.below), rfl⟩) (k : Int) aE aE hE).mono ?_)); rintro _ t ⟨d, z, rfl, A⟩; refine ⟨_, rfl, ?_⟩
 have p := St.call G A
 refine sg (aF (v := d) rfl (aB (wp_seq (wp_seq (aA (sg (aG (aB (wp_block (bF (fun (m : Nat) (f : Nat → Value) (W : World) => ∃ (i : Nat), i ≤ (dK (dO r.plan.edges (k : Int))).length ∧ m = (dK (dO r.plan.edges (k : Int))).length - i ∧ Ag [(2, pt_ j), (5, pt_ M), (6, I (fL r ((dK (dO r.plan.edges (k : Int))).take i))), (7, d), (8, I (i : Int))] f ∧ St w W ([Res.own (α := List Int) d (dK (dO r.plan.edges (k : Int))) z, Res.bx M q 140, Res.bx j [I r.id, I r.plan.prio, I r.plan.most, I r.plan.wait, I r.plan.tasks, a, I r.state, c] 123])) ((dK (dO r.plan.edges (k : Int))).length - 0) ?_ ?_))))))))))
 ·exact ⟨0, aE, rfl, (g.put.put.put.to aD), p⟩
 intro t d A B
 obtain ⟨i, hi, rfl, z, N⟩ := B
 have hnr := rP r ((dK (dO r.plan.edges (k : Int))).take i)
 have htl := length_take_le i (dK (dO r.plan.edges (k : Int)))
 refine wp_seq (wp_seq (aA (rn N 4 z [] [(21, .bool (decide ((i : Int) < ((dK (dO r.plan.edges (k : Int))).length : Int))))] [ql (aM (N.get 0 rfl)), .o] aD fun t O => (aB (aP (O.at 21) (fun a => ?_) (fun a => ?_))))))
 ·refine wp_skip (wp_seq (wp_block (wp_seq ?_)))
  have hbr := yE r.plan (k : Int)
  rw [hbeq] at hbr
  have hbr := hbr _ (getElem_mem (l := (dK (dO r.plan.edges (k : Int)))) (n := i) aE)
  have P : i < (dK (dO r.plan.edges (k : Int))).length := aE
  have F := idx (aM (N.get 0 rfl)) (i := i) P
  obtain ⟨t, a, c, d, R, S, g, j⟩ := F
  have T := g
  obtain ⟨rfl, rfl, p⟩ := T
  have U : (((dK (dO r.plan.edges (k : Int)))[i]'P)).toNat < r.tasks.length := aE
  have F := idx D (i := (((dK (dO r.plan.edges (k : Int)))[i]'P)).toNat) U
  obtain ⟨t, a, c, d, X, Y, j, q⟩ := F
  have Z := j
  obtain ⟨a0, rfl, g⟩ := Z
  have a0 : _ = [I (r.tasks[(((dK (dO r.plan.edges (k : Int)))[i]'P)).toNat]'U).state, I (r.tasks[(((dK (dO r.plan.edges (k : Int)))[i]'P)).toNat]'U).need, I (r.tasks[(((dK (dO r.plan.edges (k : Int)))[i]'P)).toNat]'U).try_, I (r.tasks[(((dK (dO r.plan.edges (k : Int)))[i]'P)).toNat]'U).until_] := a0
  subst a0
  refine rd N O [] [(33, .bool (!decide ((r.tasks[(((dK (dO r.plan.edges (k : Int)))[i]'P)).toNat]'U).state = 4)))] [qb 2 rfl 7, qx R, qn S 0, qxe X (e := ((dK (dO r.plan.edges (k : Int)))[i]'P)) aE, qr Y 0, .o] aD aD fun t a c d g => (cQ (c.at 33) (fun j => ?_) (fun j => ?_))
  ·refine aA (rn d 3 c [6] [(6, I ((fL r ((dK (dO r.plan.edges (k : Int))).take i)) + 1))] [qad (fL r ((dK (dO r.plan.edges (k : Int))).take i)) 1] aD fun p q => (aB (aA (rn d 3 q [8] [(8, I ((i : Int) + 1))] [qad (i : Int) 1] aD fun t a => (aB ?_)))))
   exact ⟨_, (dK (dO r.plan.edges (k : Int))).length - (i + 1), aE, rfl, i + 1, aE, rfl, (Ag.cons (a.at 2) (Ag.cons (a.at 5) (Ag.cons (Eq.trans (show _ = I ((fL r ((dK (dO r.plan.edges (k : Int))).take i)) + 1) from (a.at 6)) (congrArg I (by rw [mX aE, qN aE]; simp only [j, decide_true, decide_false, Bool.false_eq_true, if_true, if_false]; try omega))) (Ag.cons (a.at 7) (Ag.cons (a.at 8) Ag.nil))))), d⟩
  refine wp_skip (aA (rn d 3 c [8] [(8, I ((i : Int) + 1))] [qad (i : Int) 1] aD fun t g => (aB ?_)))
  exact ⟨_, (dK (dO r.plan.edges (k : Int))).length - (i + 1), aE, rfl, i + 1, aE, rfl, (Ag.cons (g.at 2) (Ag.cons (g.at 5) (Ag.cons (Eq.trans (show _ = I (fL r ((dK (dO r.plan.edges (k : Int))).take i)) from (g.at 6)) (congrArg I (by rw [mX aE, qN aE]; simp only [j, decide_true, decide_false, Bool.false_eq_true, if_true, if_false]; try omega))) (Ag.cons (g.at 7) (Ag.cons (g.at 8) Ag.nil))))), d⟩
 refine wp_exit (wp_seq (wp_seq (aA ?_)))
 have hneed : jU r (k : Int) = fL r ((dK (dO r.plan.edges (k : Int))).take i) := by unfold jU; rw [hbeq, show i = (dK (dO r.plan.edges (k : Int))).length by omega, take_length]
 have b0 := K
 obtain ⟨c0, rfl, t⟩ := b0
 have c0 : _ = [I (r.tasks[k]'E).state, I (r.tasks[k]'E).need, I (r.tasks[k]'E).try_, I (r.tasks[k]'E).until_] := c0
 subst c0
 refine rg N 13 O [] [(48, .bool ((!decide ((r.tasks[k]'E).need = (fL r ((dK (dO r.plan.edges (k : Int))).take i)))) || (!(inB (r.tasks[k]'E).try_ 0 r.plan.most))))] [qb 1 rfl 1, .o, qb 1 rfl 2, qb 2 rfl 2, qc (args := [I (r.tasks[k]'E).try_, I 0, I r.plan.most]) (v := .bool (inB (r.tasks[k]'E).try_ 0 r.plan.most)) func43 rfl (fun W s b => cR W (r.tasks[k]'E).try_ 0 r.plan.most), .o] aD fun t a c d g => (aB (bZ (c.at 48) (fun j => ?_) (fun j => ?_)))
 ·refine wp_seq (aA (sg (aG (aB (wr (bA results156 rfl ?_))))))
  exact ⟨(fB (fU tk_).symm), d.bare⟩
 refine wp_skip (wp_seq (wp_seq (aA (rg d 19 c [] [(67, .bool (((decide ((r.tasks[k]'E).state = 3)) && (!(inB (r.tasks[k]'E).until_ 1 1000000000))) || ((!decide ((r.tasks[k]'E).state = 3)) && (!decide ((r.tasks[k]'E).until_ = 0)))))] [qb 1 rfl 0, .o, qb 1 rfl 3, qc (args := [I (r.tasks[k]'E).until_, I 1, I 1000000000]) (v := .bool (inB (r.tasks[k]'E).until_ 1 1000000000)) func43 rfl (fun W s b => cR W (r.tasks[k]'E).until_ 1 1000000000), .o, qb 1 rfl 0, .o, qb 1 rfl 3, .o] aD fun t a c d g => (aB (bZ (c.at 67) (fun j => ?_) (fun j => ?_)))))))
 ·refine wp_seq (aA (sg (aG (aB (wr (bA results156 rfl ?_))))))
  exact ⟨(fB (fU tk_).symm), d.bare⟩
 refine wp_skip (wp_seq (wp_seq (aA (sg (aN jE (c.at 5) (sg (aW dA rfl rfl (d.get 1 rfl) (i := 0) rfl rfl (aB (wp_block (wp_seq (aA (sg (dC rfl rfl (sg (aF (v := .bool (decide ((r.tasks[k]'E).state = 1))) rfl ?_)))))))))))))))
 refine aB (aP rfl (fun t => ?_) (fun t => ?_))
 ·refine wp_seq (aA (rn d 3 c.put.put.put.put [] [(4, .bool (decide (0 < (fL r ((dK (dO r.plan.edges (k : Int))).take i)))))] [.o] aD fun a g => (aB (wr (bA results156 (g.at 4) ?_)))))
  exact ⟨(fB (vC tk_).symm), d.bare⟩
 refine wp_seq (aA (sg (dC rfl rfl (sg (aF (v := .bool (decide ((r.tasks[k]'E).state = 2))) rfl (aB (aP rfl (fun t => ?_) (fun t => ?_))))))))
 ·refine wp_seq (aA (rg d 11 c.put.put.put.put.put.put [] [(4, .bool ((decide ((fL r ((dK (dO r.plan.edges (k : Int))).take i)) = 0)) && (decide ((r.tasks[k]'E).try_ < r.plan.most))))] [.o, qb 1 rfl 2, qb 2 rfl 2, .o] aD fun a g j p q => (aB (wr (bA results156 (j.at 4) ?_)))))
  exact ⟨(fB (vC tk_).symm), p.bare⟩
 refine wp_seq (wp_seq (aA (sg (dC rfl rfl (sg (aF (v := .bool (decide ((r.tasks[k]'E).state = 3))) rfl (aB (aP rfl (fun t => ?_) (fun t => ?_)))))))))
 ·have a := decide_eq_true t
  refine wp_skip (gY rfl a (wp_seq (aA (rg d 8 c.put.put.put.put.put.put.put.put [] [(4, .bool ((decide ((fL r ((dK (dO r.plan.edges (k : Int))).take i)) = 0)) && (decide (1 ≤ (r.tasks[k]'E).try_))))] [.o, qb 1 rfl 2, .o] aD fun g j p q z => (aB (wr (bA results156 (p.at 4) ?_)))))))
  exact ⟨(fB (vC tk_).symm), q.bare⟩
 have a := decide_eq_false t
 refine wp_seq (aA (sg (dC rfl rfl (sg (aF (v := .bool (decide ((r.tasks[k]'E).state = 4))) rfl (aB (aP rfl (fun A => ?_) (fun A => ?_))))))))
 ·have g := decide_eq_true A
  refine wp_skip (gY rfl g (wp_seq (aA (lw c.put.put.put.put.put.put.put.put.put.put [(5, pt_ M), (6, I (fL r ((dK (dO r.plan.edges (k : Int))).take i)))] aD fun t => (rg d 8 t [] [(4, .bool ((decide ((fL r ((dK (dO r.plan.edges (k : Int))).take i)) = 0)) && (decide (1 ≤ (r.tasks[k]'E).try_))))] [.o, qb 1 rfl 2, .o] aD fun a j p q z => (aB (wr (bA results156 (p.at 4) ?_))))))))
  exact ⟨(fB (vC tk_).symm), q.bare⟩
 have g := decide_eq_false A
 refine aA (sg (dC rfl rfl (sg (aF (v := .bool (decide ((r.tasks[k]'E).state = 5))) rfl (aB (aP rfl (fun t => ?_) (fun t => ?_)))))))
 ·refine wp_seq (aA (lw c.put.put.put.put.put.put.put.put.put.put.put.put [(5, pt_ M), (6, I (fL r ((dK (dO r.plan.edges (k : Int))).take i)))] aD fun a => (rg d 8 a [] [(4, .bool ((decide ((fL r ((dK (dO r.plan.edges (k : Int))).take i)) = 0)) && (decide (1 ≤ (r.tasks[k]'E).try_))))] [.o, qb 1 rfl 2, .o] aD fun t g j p q => (aB (wr (bA results156 (j.at 4) ?_))))))
  exact ⟨(fB (vC tk_).symm), p.bare⟩
 refine wp_skip (wp_seq (aA (lw c.put.put.put.put.put.put.put.put.put.put.put.put [(5, pt_ M)] aD fun a => (rn d 4 a [] [(4, .bool (decide ((r.tasks[k]'E).state = 6)))] [qb 1 rfl 0, .o] aD fun z A => (aB (wr (bA results156 (A.at 4) ?_)))))))
 exact ⟨(fB (vC tk_).symm), d.bare⟩
theorem aJ8 {r : Run} (hc : Shape.C w cs r fp) (hS : ∀ t ∈ r.tasks, 1 ≤ t.state ∧ t.state ≤ 6) (hl : r.tasks.length ≤ 1048576) :
  Calls prog 157 #[.agg cs.toArray] w (rI_ (eN r.tasks) w) := by
 have hcap : r.tasks.length ≤ 9223372036854775807 := by have s := hc; obtain ⟨a, b, f1, f2, s, hok, c, d, hfp⟩ := s; exact d.len_le
 refine cN func157 rfl ntmps157 aZ (wp_seq (aA (sg (aI (cs := cs) rfl (St.start w) ?_)))); intro g j p q
 refine sg (aG (aB (wp_seq (aA (sg (aU (cs := [I 0, I 0, I 0, I 0, I 0, I 0, I 0]) (e := 3) (bR (v := I 0) rfl (bR (v := I 0) rfl (bR (v := I 0) rfl (bR (v := I 0) rfl (bR (v := I 0) rfl (bR (v := I 0) rfl (bR (v := I 0) rfl dJ))))))) (eR cP _ rfl (dQ rfl (dQ rfl (dQ rfl (dQ rfl (dQ rfl (dQ rfl (dQ rfl nH)))))))) q ?_)))))); intro A s a b
 refine sg (aF (v := .slice (some ⟨A, 0, none⟩) 7 7) rfl (aB (wp_seq (wp_seq (aA (sg (aG (aB (wp_block ?_)))))))))
 have c := St.row_lit (α := Int) (ys := [0, 0, 0, 0, 0, 0, 0]) b rfl bH (Elems.ic dL (Elems.ic dL (Elems.ic dL (Elems.ic dL (Elems.ic dL (Elems.ic dL (Elems.ic dL Elems.i0)))))))
 have B := c.shut
 obtain ⟨s, a⟩ := B
 refine bF (fun (m : Nat) (f : Nat → Value) (W : World) => ∃ (k : Nat) (d : List Nat), k ≤ r.tasks.length ∧ m = r.tasks.length - k ∧ Ag [(1, pt_ g), (3, (.slice (some ⟨A, 0, none⟩) 7 7)), (4, I (k : Int))] f ∧ St w W ([Res.own (α := List Int) (.slice (some ⟨A, 0, none⟩) 7 7) (fK (r.tasks.take k)) d, Res.bx g cs 123])) (r.tasks.length - 0) ?_ ?_
 ·exact ⟨0, s, aE, rfl, (Ag.nil.put.put.put.put.put.put.to aD), (by rw [take_zero, cnts_nil]; exact a)⟩
 intro b c j p
 obtain ⟨k, d, hk, rfl, D, E⟩ := p
 refine wp_seq (wp_seq (aA ?_))
 have F := hc
 obtain ⟨q, G, g, H, rfl, J, K, L, rfl⟩ := F
 refine rn E 5 D [] [(11, .bool (decide ((k : Int) < (r.tasks.length : Int))))] [qb 1 rfl 7, ql L, .o] aD fun s M => (aB (aP (M.at 11) (fun a => ?_) (fun a => ?_)))
 ·refine wp_skip (wp_seq (wp_block (aA ?_)))
  have N : k < r.tasks.length := aE
  have B := idx L (i := k) N
  obtain ⟨b, c, d, g, O, P, j, p⟩ := B
  have R := j
  obtain ⟨S, rfl, s⟩ := R
  have S : _ = [I (r.tasks[k]'N).state, I (r.tasks[k]'N).need, I (r.tasks[k]'N).try_, I (r.tasks[k]'N).until_] := S
  subst S
  refine rn E 7 M [] [(14, (.slice (some ⟨A, 0, none⟩) 7 7)), (20, I (r.tasks[k]'N).state)] [qb 1 rfl 7, qx O, qr P 0] aD fun s T => ?_
  have hsk := hS _ (getElem_mem (l := r.tasks) (n := k) aE)
  have hcl := tI (r.tasks.take k)
  have htl := length_take_le k r.tasks
  have U : ((r.tasks[k]'N).state).toNat < (fK (r.tasks.take k)).length := aE
  have B := idx (aM (E.get 0 rfl)) (i := ((r.tasks[k]'N).state).toNat) U
  obtain ⟨X, Y, s, a, Z, a0, b, c⟩ := B
  have b0 := b
  obtain ⟨rfl, rfl, d⟩ := b0
  refine sg (aT eG (T.at 14) Z (T.at 20) aE ?_)
  have hcr := cnts_rng (r.tasks.take k) (r.tasks[k]'(by omega)).state.toNat aE
  refine rn E 3 T.put [] [(23, I (((fK (r.tasks.take k))[((r.tasks[k]'N).state).toNat]'U) + 1)), (24, .pointer (some ⟨X, Y, none⟩))] [qn a0 0, qad ((fK (r.tasks.take k))[((r.tasks[k]'N).state).toNat]'U) 1, qxe Z (e := (r.tasks[k]'N).state) aE] aD fun s a => (sgn (qA (α := Int) (z := ((fK (r.tasks.take k))[((r.tasks[k]'N).state).toNat]'U) + 1) rfl aD (a.at 24) Z U (a.at 23) rfl rfl E (fun W => ⟨rfl, rfl, dL⟩) ?_)); intro b c d
  refine aB (aA (rn d 3 a [4] [(4, I ((k : Int) + 1))] [qad (k : Int) 1] aD fun s g => (aB ?_)))
  exact ⟨_, r.tasks.length - (k + 1), aE, rfl, k + 1, b, aE, rfl, (g.to aD), (by rw [← cnts_set aE (hS _ (getElem_mem _)) (by rw [tI]; omega)]; exact d)⟩
 refine wp_exit (wp_seq ?_)
 have hkl : k = r.tasks.length := by omega
 have hcl := tI (r.tasks.take k)
 have hso := rA r.tasks
 have s : r.tasks.take k = r.tasks := by rw [hkl, take_length]
 have a : (fK (r.tasks.take k))[1]'(by omega) = cW r.tasks 1 := (uI _ 1 _).trans (by rw [s]; rfl)
 have b : (fK (r.tasks.take k))[2]'(by omega) = cW r.tasks 2 := (uI _ 2 _).trans (by rw [s]; rfl)
 have c : (fK (r.tasks.take k))[3]'(by omega) = cW r.tasks 3 := (uI _ 3 _).trans (by rw [s]; rfl)
 have a : (fK (r.tasks.take k))[4]'(by omega) = cW r.tasks 4 := (uI _ 4 _).trans (by rw [s]; rfl)
 have b : (fK (r.tasks.take k))[5]'(by omega) = cW r.tasks 5 := (uI _ 5 _).trans (by rw [s]; rfl)
 have c : (fK (r.tasks.take k))[6]'(by omega) = cW r.tasks 6 := (uI _ 6 _).trans (by rw [s]; rfl)
 have a := eE r.tasks 1
 have d := eE r.tasks 2
 have g := eE r.tasks 3
 have b := eE r.tasks 4
 have j := eE r.tasks 5
 have p := eE r.tasks 6
 have q := oN r.tasks 1
 have c := oN r.tasks 2
 have A := oN r.tasks 3
 have D := oN r.tasks 4
 have s := oN r.tasks 5
 have a := oN r.tasks 6
 have c0 : 1 < (fK (r.tasks.take k)).length := aE
 have B := idx (aM (E.get 0 rfl)) (i := 1) c0
 obtain ⟨b, d, g, j, e0, f0, p, c⟩ := B
 have g0 := p
 obtain ⟨rfl, rfl, q⟩ := g0
 have h0 : 2 < (fK (r.tasks.take k)).length := aE
 have B := idx (aM (E.get 0 rfl)) (i := 2) h0
 obtain ⟨s, a, A, D, j0, k0, F, G⟩ := B
 have l0 := F
 obtain ⟨rfl, rfl, b⟩ := l0
 have m0 : 3 < (fK (r.tasks.take k)).length := aE
 have B := idx (aM (E.get 0 rfl)) (i := 3) m0
 obtain ⟨c, d, g, j, n0, o0, p, q⟩ := B
 have p0 := p
 obtain ⟨rfl, rfl, s⟩ := p0
 refine rd E M [] [(5, I ((((fK (r.tasks.take k))[1]'c0) + ((fK (r.tasks.take k))[2]'h0)) + ((fK (r.tasks.take k))[3]'m0)))] [qx e0, qn f0 0, qx j0, qn k0 0, qad ((fK (r.tasks.take k))[1]'c0) ((fK (r.tasks.take k))[2]'h0), qx n0, qn o0 0, qad (((fK (r.tasks.take k))[1]'c0) + ((fK (r.tasks.take k))[2]'h0)) ((fK (r.tasks.take k))[3]'m0)] aD aD fun s a q0 s0 b => (wp_seq (wp_block (wp_seq ?_)))
 have t0 : 4 < (fK (r.tasks.take k)).length := aE
 have B := idx (aM (s0.get 0 rfl)) (i := 4) t0
 obtain ⟨c, d, g, j, v0, w0, p, q⟩ := B
 have x0 := p
 obtain ⟨rfl, rfl, A⟩ := x0
 refine rd s0 q0 [] [(36, .bool (decide (((fK (r.tasks.take k))[4]'t0) = (r.tasks.length : Int))))] [qx v0, qn w0 0, qb 1 rfl 7, ql L, .o] aD aD fun s a y0 z0 b => (aP (y0.at 36) (fun c => ?_) (fun c => ?_))
 ·refine wp_seq (aA (sg (aG (aB (wr (bA results157 rfl ?_))))))
  exact ⟨(fI aE), z0.bare⟩
 refine wp_seq (aA ?_)
 have A0 : 5 < (fK (r.tasks.take k)).length := aE
 have B := idx (aM (z0.get 0 rfl)) (i := 5) A0
 obtain ⟨s, a, b, c, B0, C0, d, g⟩ := B
 have D0 := d
 obtain ⟨rfl, rfl, j⟩ := D0
 rcases nem (((fK (r.tasks.take k))[5]'A0) = 1) with E0 | E0
 ·have F0 := decide_eq_false E0
  refine rn z0 9 y0 [] [(44, .bool false)] [qx B0, qn C0 0, qk F0] aD fun s G0 => (aB (kI (G0.at 44) rfl (wp_seq (aA ?_))))
  rcases nem (((fK (r.tasks.take k))[5]'A0) = 0) with a | a
  ·have H0 := decide_eq_false a
   refine rn z0 15 G0 [] [(53, .bool false)] [qx B0, qn C0 0, qk H0] aD fun b c => (aB (kI (c.at 53) rfl (wp_seq (aA (rn z0 11 c [] [(68, .bool false)] [qx B0, qn C0 0, qk H0] aD fun s d => (aB (kI (d.at 68) rfl (wp_skip (wp_seq (aA (sg (aG ?_))))))))))))
   refine aB (wr (bA results157 rfl ?_))
   exact ⟨(fI aE), z0.bare⟩
  have H0 := decide_eq_true a
  have J0 : 6 < (fK (r.tasks.take k)).length := aE
  have B := idx (aM (z0.get 0 rfl)) (i := 6) J0
  obtain ⟨s, b, c, d, K0, L0, g, j⟩ := B
  have M0 := g
  obtain ⟨rfl, rfl, p⟩ := M0
  rcases nem (0 < ((fK (r.tasks.take k))[6]'J0)) with q | q
  ·have a := decide_eq_false q
   refine rn z0 15 G0 [] [(53, .bool false)] [qx B0, qn C0 0, qk H0, qx K0, qn L0 0, qk a] aD fun s b => (aB (kI (b.at 53) rfl (wp_seq (aA (rn z0 11 b [] [(68, .bool (decide (((fK (r.tasks.take k))[6]'J0) = 0)))] [qx B0, qn C0 0, qk H0, qx K0, qn L0 0, .o] aD fun c d => (aB (aP (d.at 68) (fun g => ?_) (fun g => ?_))))))))
   ·refine wp_seq (aA (sg (aG (aB (wr (bA results157 rfl ?_))))))
    exact ⟨(fI aE), z0.bare⟩
   refine wp_skip (wp_seq (aA (sg (aG (aB (wr (bA results157 rfl ?_)))))))
   exact ⟨(fI aE), z0.bare⟩
  have a := decide_eq_true q
  refine rn z0 15 G0 [] [(53, .bool (decide (((((fK (r.tasks.take k))[1]'c0) + ((fK (r.tasks.take k))[2]'h0)) + ((fK (r.tasks.take k))[3]'m0)) = 0)))] [qx B0, qn C0 0, qk H0, qx K0, qn L0 0, qk a, .o] aD fun s b => (aB (aP (b.at 53) (fun c => ?_) (fun c => ?_)))
  ·refine wp_seq (aA (sg (aG (aB (wr (bA results157 rfl ?_))))))
   exact ⟨(fI aE), z0.bare⟩
  refine wp_seq (aA (rn z0 11 b [] [(68, .bool (decide (((fK (r.tasks.take k))[6]'J0) = 0)))] [qx B0, qn C0 0, qk H0, qx K0, qn L0 0, .o] aD fun s a => (aB (aP (a.at 68) (fun c => ?_) (fun c => ?_)))))
  ·refine wp_seq (aA (sg (aG (aB (wr (bA results157 rfl ?_))))))
   exact ⟨(fI aE), z0.bare⟩
  refine wp_skip (wp_seq (aA (sg (aG (aB (wr (bA results157 rfl ?_)))))))
  exact ⟨(fI aE), z0.bare⟩
 have F0 := decide_eq_true E0
 refine rn z0 9 y0 [] [(44, .bool (decide (((((fK (r.tasks.take k))[1]'c0) + ((fK (r.tasks.take k))[2]'h0)) + ((fK (r.tasks.take k))[3]'m0)) = 0)))] [qx B0, qn C0 0, qk F0, .o] aD fun s N0 => (aB (aP (N0.at 44) (fun a => ?_) (fun a => ?_)))
 ·have O0 := decide_eq_true a
  refine wp_seq (aA (sg (aG (aB (wr (bA results157 rfl ?_))))))
  exact ⟨(fI aE), z0.bare⟩
 have O0 := decide_eq_false a
 refine wp_seq (aA ?_)
 rcases nem (((fK (r.tasks.take k))[5]'A0) = 0) with s | s
 ·have P0 := decide_eq_false s
  refine rn z0 15 N0 [] [(53, .bool false)] [qx B0, qn C0 0, qk P0] aD fun b c => (aB (kI (c.at 53) rfl (wp_seq (aA (rn z0 11 c [] [(68, .bool false)] [qx B0, qn C0 0, qk P0] aD fun a d => (aB (kI (d.at 68) rfl (wp_skip (wp_seq (aA (sg (aG ?_))))))))))))
  refine aB (wr (bA results157 rfl ?_))
  exact ⟨(fI aE), z0.bare⟩
 have P0 := decide_eq_true s
 have J0 : 6 < (fK (r.tasks.take k)).length := aE
 have B := idx (aM (z0.get 0 rfl)) (i := 6) J0
 obtain ⟨a, b, c, d, Q0, R0, g, j⟩ := B
 have S0 := g
 obtain ⟨rfl, rfl, p⟩ := S0
 rcases nem (0 < ((fK (r.tasks.take k))[6]'J0)) with q | q
 ·have s := decide_eq_false q
  refine rn z0 15 N0 [] [(53, .bool false)] [qx B0, qn C0 0, qk P0, qx Q0, qn R0 0, qk s] aD fun a b => (aB (kI (b.at 53) rfl (wp_seq (aA (rn z0 11 b [] [(68, .bool (decide (((fK (r.tasks.take k))[6]'J0) = 0)))] [qx B0, qn C0 0, qk P0, qx Q0, qn R0 0, .o] aD fun c d => (aB (aP (d.at 68) (fun g => ?_) (fun g => ?_))))))))
  ·refine wp_seq (aA (sg (aG (aB (wr (bA results157 rfl ?_))))))
   exact ⟨(fI aE), z0.bare⟩
  refine wp_skip (wp_seq (aA (sg (aG (aB (wr (bA results157 rfl ?_)))))))
  exact ⟨(fI aE), z0.bare⟩
 have s := decide_eq_true q
 refine rn z0 15 N0 [] [(53, .bool false)] [qx B0, qn C0 0, qk P0, qx Q0, qn R0 0, qk s, qk O0] aD fun a b => (aB (kI (b.at 53) rfl (wp_seq (aA (rn z0 11 b [] [(68, .bool (decide (((fK (r.tasks.take k))[6]'J0) = 0)))] [qx B0, qn C0 0, qk P0, qx Q0, qn R0 0, .o] aD fun c d => (aB (aP (d.at 68) (fun g => ?_) (fun g => ?_))))))))
 ·refine wp_seq (aA (sg (aG (aB (wr (bA results157 rfl ?_))))))
  exact ⟨(fI aE), z0.bare⟩
 refine wp_skip (wp_seq (aA (sg (aG (aB (wr (bA results157 rfl ?_)))))))
 exact ⟨(fI aE), z0.bare⟩
theorem rS {r : Run} (hc : Shape.C w cs r fp) :
  Calls prog 89 #[.agg cs.toArray] w (rB_ (gI r) w) := by
 have hcap : r.tasks.length ≤ 9223372036854775807 := by have a := hc; obtain ⟨c, d, f1, f2, a, hok, g, n, hfp⟩ := a; exact n.len_le
 refine cN func89 rfl ntmps89 aZ (wp_seq (aA (sg (aI (cs := cs) rfl (St.start w) ?_)))); intro p q z A
 refine sg (aG (aB (wp_seq (wp_seq (aA ?_)))))
 have B := hc
 obtain ⟨D, E, a, c, rfl, d, F, G, rfl⟩ := B
 rcases bd (!(inB r.id 1 9999)) with H | H
 ·have J := inB_iff'.1 (aX H)
  rcases Decidable.em ((bM r.plan) = 0) with K | K
  ·have L := gM K
   refine rc A 19 Ag.nil.put.put.put [] [(23, .bool (!decide ((r.tasks.length : Int) = r.plan.tasks)))] [qb 0 rfl 0, qc func43 rfl (fun W s b => cR W r.id 1 9999), qk H, qb 0 rfl 1, qc func155 rfl (fun W s b => mQ W (show Shape.C _ [I r.plan.prio, I r.plan.most, I r.plan.wait, I r.plan.tasks, D] r.plan _ from ⟨_, _, rfl, fF, (F.below s.below), rfl⟩)), qk L, qb 0 rfl 7, ql G, qb 0 rfl 4, .o] aD fun f12 a c d n => (aB (cQ (c.at 23) (fun q => ?_) (fun q => ?_)))
   ·refine wp_seq (aA (sg (aG (aB (wr (bA results89 rfl ?_))))))
    exact ⟨(fB (by unfold gI; rw [fU (by rintro ⟨M, N, O, P, R, S⟩; omega)])), d.bare⟩
   refine wp_skip (wp_seq (wp_seq (aA ?_)))
   have hP : bM r.plan = 0 := by omega
   have hMb := pM (lI hP).1
   refine sg (aG (aB (wp_block (bF (fun (m : Nat) (f : Nat → Value) (W : World) => ∃ (i : Nat), i ≤ r.tasks.length ∧ (∀ t ∈ r.tasks.take i, 1 ≤ t.state ∧ t.state ≤ 6) ∧ m = r.tasks.length - i ∧ Ag [(1, pt_ p), (3, I (i : Int))] f ∧ St w W ([Res.bx p [I r.id, I r.plan.prio, I r.plan.most, I r.plan.wait, I r.plan.tasks, D, I r.state, E] 123])) (r.tasks.length - 0) ?_ ?_))))
   ·exact ⟨0, aE, (by simp), rfl, (c.put.to aD), d⟩
   intro a n q z
   obtain ⟨i, hk, hSk, rfl, B, T⟩ := z
   refine wp_seq (wp_seq (aA (rn T 5 B [] [(28, .bool (decide ((i : Int) < (r.tasks.length : Int))))] [qb 0 rfl 7, ql G, .o] aD fun U X => (aB (aP (X.at 28) (fun Y => ?_) (fun Y => ?_))))))
   ·refine wp_skip (wp_seq (wp_block (wp_seq (aA ?_))))
    have Z : i < r.tasks.length := aE
    have a := idx G (i := i) Z
    obtain ⟨c, d, n, q, a0, b0, z, B⟩ := a
    have c0 := z
    obtain ⟨e0, rfl, U⟩ := c0
    have e0 : _ = [I (r.tasks[i]'Z).state, I (r.tasks[i]'Z).need, I (r.tasks[i]'Z).try_, I (r.tasks[i]'Z).until_] := e0
    subst e0
    refine rc T 8 X [] [(38, .bool (!(inB (r.tasks[i]'Z).state 1 6)))] [qb 0 rfl 7, qx a0, qr b0 0, qc (args := [I (r.tasks[i]'Z).state, I 1, I 6]) (v := .bool (inB (r.tasks[i]'Z).state 1 6)) func43 rfl (fun W s b => cR W (r.tasks[i]'Z).state 1 6), .o] aD fun a c f0 g0 d => (aB (bZ (f0.at 38) (fun n => ?_) (fun n => ?_)))
    ·have q := cU (aY n)
     refine wp_seq (aA (sg (aG (aB (wr (bA results89 rfl ?_))))))
     exact ⟨(fB (by unfold gI; rw [fU (fun hz => by have N := (hz.2.2.2.1 i aE aE).1; omega)])), g0.bare⟩
    have q := inB_iff'.1 (aX n)
    refine wp_skip (aA (sg (aH (f0.at 3) (sg (bO rfl rfl dL (sg (aF (v := I ((i : Int) + 1)) rfl (aB ?_))))))))
    exact ⟨_, r.tasks.length - (i + 1), aE, rfl, i + 1, aE, (fun t ht => by rw [take_succ_eq_append_getElem aE] at ht; rcases mem_append.1 ht with g | g; exact hSk t g; rw [mem_singleton] at g; subst g; omega), rfl, (f0.put.put.put.to aD), g0⟩
   refine wp_exit (wp_seq (wp_seq (aA ?_)))
   have hS : ∀ t ∈ r.tasks, 1 ≤ t.state ∧ t.state ≤ 6 := by rw [show i = r.tasks.length by omega, take_length] at hSk; exact hSk
   refine sg (aG (aB (wp_block (bF (fun (m : Nat) (f : Nat → Value) (W : World) => ∃ (k : Nat), k ≤ r.tasks.length ∧ (∀ j, j < k → lM r j) ∧ m = r.tasks.length - k ∧ Ag [(1, pt_ p), (4, I (k : Int))] f ∧ St w W ([Res.bx p [I r.id, I r.plan.prio, I r.plan.most, I r.plan.wait, I r.plan.tasks, D, I r.state, E] 123])) (r.tasks.length - 0) ?_ ?_))))
   ·exact ⟨0, aE, (fun j hj => absurd hj (Nat.not_lt_zero j)), rfl, (X.put.to aD), T⟩
   intro a c d n
   obtain ⟨k, hk, hT, rfl, p, h0⟩ := n
   refine wp_seq (wp_seq (aA (rn h0 5 p [] [(43, .bool (decide ((k : Int) < (r.tasks.length : Int))))] [qb 0 rfl 7, ql G, .o] aD fun q j0 => (aB (aP (j0.at 43) (fun z => ?_) (fun z => ?_))))))
   ·refine wp_skip (wp_seq (wp_block (wp_seq (aA (rc h0 4 j0 [] [(49, .bool (!(pB (iH r (jU r (k : Int)) (r.tasks[k]'(by omega))))))] [qb 0 rfl 0, qc (args := [.agg #[I r.id, I r.plan.prio, I r.plan.most, I r.plan.wait, I r.plan.tasks, D, I r.state, E], I (k : Int)]) (v := .bool (pB (iH r (jU r (k : Int)) (r.tasks[k]'(by omega))))) func156 rfl (fun W s b => TaskOkS W (aR hc s.below) (k := k) aE aE aE (hS _ (getElem_mem _))), .o] aD fun a c k0 l0 d => (aB (bZ (k0.at 49) (fun m0 => ?_) (fun m0 => ?_))))))))
    ·refine wp_seq (aA (sg (aG (aB (wr (bA results89 rfl ?_))))))
     exact ⟨(fB (by unfold gI; rw [fU (fun hz => aJ5 (aY m0) (hz.2.2.2.1 k aE aE))])), l0.bare⟩
    refine wp_skip (aA (sg (aH (k0.at 4) (sg (bO rfl rfl dL (sg (aF (v := I ((k : Int) + 1)) rfl (aB ?_))))))))
    exact ⟨_, r.tasks.length - (k + 1), aE, rfl, k + 1, aE, (fun j hj => by rcases Nat.lt_succ_iff_lt_or_eq.1 hj with g | rfl; exact hT j g; exact fun _ => pB_iff.1 ((aX m0))), rfl, (k0.put.put.put.to aD), l0⟩
   refine wp_exit (wp_seq ?_)
   rcases nem (r.state = (eN r.tasks)) with a | a
   ·have c := decide_eq_false a
    have hTk : ∀ j, j < r.tasks.length → lM r j := by rw [show k = r.tasks.length by omega] at hT; exact hT
    refine rd h0 j0 [] [(2, .bool false)] [qb 0 rfl 6, qb 0 rfl 0, qc func157 rfl (fun W s b => aJ8 W (aR hc s.below) hS aE), qk c] aD aD fun d g n p q => (wr (bA results89 (n.at 2) ?_))
    exact ⟨(fB (by unfold gI; rw [fU (by rintro ⟨M, N, O, P, R, S⟩; omega)])), p.bare⟩
   have c := decide_eq_true a
   have hTk : ∀ j, j < r.tasks.length → lM r j := by rw [show k = r.tasks.length by omega] at hT; exact hT
   refine rd h0 j0 [] [(2, .bool (!decide (r.state = 0)))] [qb 0 rfl 6, qb 0 rfl 0, qc func157 rfl (fun W s b => aJ8 W (aR hc s.below) hS aE), qk c, qb 0 rfl 6, .o] aD aD fun a d g n p => ?_
   rcases Decidable.em (r.state = 0) with q | q
   ·have z := gM q
    refine wr (bA results89 ((g.at 2).trans (congrArg Value.bool z)) ?_)
    exact ⟨(fB (by unfold gI; rw [fU (by rintro ⟨M, N, O, P, R, S⟩; omega)])), n.bare⟩
   have z := gL q
   refine wr (bA results89 ((g.at 2).trans (congrArg Value.bool z)) ?_)
   exact ⟨(fB (by unfold gI; rw [oX ⟨by omega, by omega, by omega, hTk, by omega, by omega⟩])), n.bare⟩
  have L := gL K
  refine rc A 19 Ag.nil.put.put.put [] [(23, .bool true)] [qb 0 rfl 0, qc func43 rfl (fun W s b => cR W r.id 1 9999), qk H, qb 0 rfl 1, qc func155 rfl (fun W s b => mQ W (show Shape.C _ [I r.plan.prio, I r.plan.most, I r.plan.wait, I r.plan.tasks, D] r.plan _ from ⟨_, _, rfl, fF, (F.below s.below), rfl⟩)), qk L] aD fun a c d g n => (aB (gY (d.at 23) rfl (wp_seq (aA (sg (aG (aB (wr (bA results89 rfl ?_)))))))))
  exact ⟨(fB (by unfold gI; rw [fU (by rintro ⟨M, N, O, P, R, S⟩; omega)])), g.bare⟩
 have J := cU (aY H)
 refine rc A 19 Ag.nil.put.put.put [] [(23, .bool true)] [qb 0 rfl 0, qc func43 rfl (fun W s b => cR W r.id 1 9999), qk H] aD fun a c d n p => (aB (gY (d.at 23) rfl (wp_seq (aA (sg (aG (aB (wr (bA results89 rfl ?_)))))))))
 exact ⟨(fB (by unfold gI; rw [fU (by rintro ⟨M, N, O, P, R, S⟩; omega)])), n.bare⟩
def sL (y : Yard) (j : Nat) : Prop := ∀ h : j < y.runs.length, gI y.runs[j] = true ∧ bJ y y.runs[j].id = (j : Int) ∧ gS y.now y.runs[j] y.shelf.flatten = true
noncomputable def dB (y : Yard) : Bool := pB ((0 ≤ y.now ∧ y.now ≤ 999999980) ∧ (1 ≤ y.seq ∧ y.seq ≤ 1000000000) ∧ y.shelf.length = 4 ∧ y.runs.length ≤ 8 ∧ (∀ l ∈ y.shelf, fM l = true) ∧
 (∀ e ∈ y.shelf.flatten, 1 ≤ e.seq ∧ e.seq ≤ y.seq - 1) ∧ (y.shelf.flatten.map (·.seq)).Nodup ∧ (∀ j, j < y.runs.length → sL y j) ∧ gZ y ≤ 40)
theorem rK {r : Run} (h : gI r = true) : (0 ≤ r.plan.wait ∧ r.plan.wait ≤ 20) ∧ r.tasks.length ≤ 12 := by
 have s := pB_iff.1 h
 have t := (lI s.2.1).1
 have a := s.2.2.1
 unfold dE at t
 omega
theorem tM {α : Type} {p : α → Prop} {xs : List α} {k : Nat} (hk : k < xs.length) (h : ∀ x ∈ xs.take k, p x) (h1 : p xs[k]) : ∀ x ∈ xs.take (k + 1), p x := by
 intro x hx
 rw [take_succ_eq_append_getElem hk] at hx
 rcases mem_append.1 hx with hx | hx
 ·exact h x hx
 rw [mem_singleton] at hx; subst hx; exact h1
theorem sU {α β : Type} (f : α → β) {xs : List α} {k : Nat} (hk : k < xs.length) : (xs.take (k + 1)).map f = (xs.take k).map f ++ [f xs[k]] := by
 rw [take_succ_eq_append_getElem hk, map_append]; rfl
theorem pI {xs : List Entry} {k : Nat} (hk : k < xs.length) (h : ((xs.take k).map (·.seq)).Nodup) (hn : xs[k].seq ∉ (xs.take k).map (·.seq)) : ((xs.take (k + 1)).map (·.seq)).Nodup := by
 rw [sU _ hk, nodup_append]
 exact ⟨h, by simp, fun a ha b hb => by simp at hb; subst hb; exact fun e => hn (e ▸ ha)⟩
theorem rB {xs : List Entry} {k : Nat} (hk : k < xs.length) (hm : xs[k].seq ∈ (xs.take k).map (·.seq)) : ¬ (xs.map (·.seq)).Nodup := by
 intro h
 have s : ((xs.take (k + 1)).map (·.seq)).Nodup := h.sublist ((take_sublist _ _).map _)
 rw [sU _ hk, nodup_append] at s
 exact s.2.2 _ hm _ (by simp) rfl

theorem nE {y : Yard} (hc : Shape.C w cs y fp) (hw : y.wt ≤ 1048576) :
  Calls prog 46 #[.agg cs.toArray] w (rB_ (dB y) w) := by
 have hyr : y.runs.length ≤ y.wt := by unfold Yard.wt wtL; omega
 have hys : y.shelf.length ≤ y.wt := by unfold Yard.wt wtL; omega
 have hfw := qO y
 refine cN func46 rfl ntmps46 aZ (wp_seq (aA (sg (aI (cs := cs) rfl (St.start w) ?_)))); intro t a c d
 refine sg (aG (aB (wp_seq (wp_seq (aA ?_)))))
 have g := hc
 obtain ⟨p, q, z, A, rfl, B, D, E, rfl⟩ := g
 rcases bd (!(inB y.now 0 999999980)) with F | F
 ·have G := inB_iff'.1 (aX F)
  rcases bd (!(inB y.seq 1 1000000000)) with H | H
  ·have J := inB_iff'.1 (aX H)
   rcases Decidable.em ((y.shelf.length : Int) = 4) with K | K
   ·have L := gM K
    refine rc d 22 Ag.nil.put.put.put [] [(32, .bool (decide (8 < (y.runs.length : Int))))] [qb 0 rfl 0, qc func47 rfl (fun W s b => cF W y.now 0 999999980), qk F, qb 0 rfl 1, qc func47 rfl (fun W s b => cF W y.seq 1 1000000000), qk H, qb 0 rfl 2, ql D, qk L, qb 0 rfl 3, ql E, .o] aD fun f13 a c g z => (aB (aP (c.at 32) (fun A => ?_) (fun A => ?_)))
    ·refine wp_seq (aA (sg (aG (aB (wr (bA results46 rfl ?_))))))
     exact ⟨(fB (by unfold dB; rw [fU (by rintro ⟨M, N, O, P, R, S, T, U, X⟩; omega)])), g.bare⟩
    refine wp_skip (wp_seq (wp_seq (aA (rn g 4 c [] [(34, p), (35, I (y.shelf.length : Int)), (36, I 0)] [qb 0 rfl 2, ql D] aD fun a z => (aB (wp_block (bF (fun (m : Nat) (f : Nat → Value) (W : World) => ∃ (k : Nat), k ≤ y.shelf.length ∧ (∀ l ∈ y.shelf.take k, fM l = true) ∧ m = y.shelf.length - k ∧ Ag [(1, pt_ t), (34, p), (35, I (y.shelf.length : Int)), (36, I (k : Int))] f ∧ St w W ([Res.bx t [I y.now, I y.seq, p, q] 34])) (y.shelf.length - 0) ?_ ?_)))))))
    ·exact ⟨0, aE, (by simp), rfl, (z.to aD), g⟩
    intro a c Y A
    obtain ⟨k, hk, Z, rfl, a0, b0⟩ := A
    refine wp_seq (aA (sg (bU (a0.at 36) (a0.at 35) (aB (wp_seq (aP rfl (fun B => ?_) (fun B => ?_)))))))
    ·refine wp_skip (wp_seq (wp_block (wp_seq (aA ?_))))
     have c0 : k < y.shelf.length := aE
     have e0 := idx D (i := k) c0
     obtain ⟨a, c, g, z, f0, g0, A, h0⟩ := e0
     have j0 := A
     obtain ⟨k0, rfl, l0⟩ := j0
     refine rn b0 3 a0.put [] [(4, k0)] [qx f0, qr g0 0] aD fun B m0 => (aB (wp_seq (aA (rc b0 3 m0 [] [(42, .bool (!(fM (y.shelf[k]'c0))))] [qc (args := [k0]) (v := .bool (fM (y.shelf[k]'c0))) func95 rfl (fun W s b => ShelfOkI W (l0.below s.below)), .o] aD fun a c g z A => (aB (bZ (g.at 42) (fun B => ?_) (fun B => ?_)))))))
     ·refine wp_seq (aA (sg (aG (aB (wr (bA results46 rfl ?_))))))
      exact ⟨(fB (by unfold dB; rw [fU (by rintro ⟨M, N, O, P, R, S, T, U, X⟩; have hq := R _ (getElem_mem (n := k) aE); rw [(aY B)] at hq; cases hq)])), z.bare⟩
     refine wp_skip (aA (sg (bO (g.at 36) rfl dL (sg (aH (v := I ((k : Int) + 1)) rfl (aB ?_))))))
     exact ⟨_, y.shelf.length - (k + 1), aE, rfl, k + 1, aE, (tM aE Z (aX B)), rfl, (g.put.put.to aD), z⟩
    refine wp_exit (wp_seq (aA ?_))
    have Z : ∀ l ∈ y.shelf, fM l = true := by rw [show k = y.shelf.length by omega, take_length] at Z; exact Z
    refine sg (aS (cs := [I y.now, I y.seq, p, q]) aL rfl (a0.at 1) (b0.get 0 rfl) rfl rfl (sg (bC func96 rfl rfl ((aI8 Y (aR hc b0.below) aE).mono ?_)))); rintro _ a ⟨n0, o0, rfl, c⟩; refine ⟨_, rfl, ?_⟩
    have g := St.call b0 c
    refine sg (aF (v := n0) rfl (aB (wp_seq (aA (sg (aF (v := .slice none 0 0) rfl (aB (wp_seq (wp_seq (aA (rn g 3 a0.put.put.put.put.put [] [(46, n0), (47, I ((y.shelf).flatten.length : Int)), (48, I 0)] [ql (aM (g.get 0 rfl))] aD fun a z => (aB (wp_block ?_)))))))))))))
    have A := g.row_nil (α := Int) 3
    refine bF (fun (m : Nat) (f : Nat → Value) (W : World) => ∃ (p0 : Nat) (q0 : Value), p0 ≤ y.shelf.flatten.length ∧ (∀ e ∈ y.shelf.flatten.take p0, 1 ≤ e.seq ∧ e.seq ≤ y.seq - 1) ∧ ((y.shelf.flatten.take p0).map (·.seq)).Nodup ∧ m = y.shelf.flatten.length - p0 ∧ Ag [(1, pt_ t), (5, n0), (6, q0), (46, n0), (47, I ((y.shelf).flatten.length : Int)), (48, I (p0 : Int))] f ∧ St w W ([Res.row (α := Int) 3 q0 ((y.shelf.flatten.take p0).map (·.seq)) [], Res.own (α := List Entry) n0 (y.shelf).flatten o0, Res.bx t [I y.now, I y.seq, p, q] 34])) (y.shelf.flatten.length - 0) ?_ ?_
    ·exact ⟨0, (.slice none 0 0), aE, (by simp), (by simp), rfl, (z.to aD), A⟩
    intro a c g B
    obtain ⟨p0, q0, Y, s0, t0, rfl, v0, w0⟩ := B
    have hml : ((y.shelf.flatten.take p0).map (·.seq)).length ≤ y.shelf.flatten.length := by rw [length_map]; exact length_take_le' _ _
    refine wp_seq (aA (sg (bU (v0.at 48) (v0.at 47) (aB (wp_seq (aP rfl (fun z => ?_) (fun z => ?_)))))))
    ·refine wp_skip (wp_seq (wp_block (wp_seq (aA ?_))))
     have x0 : p0 < (y.shelf).flatten.length := aE
     have e0 := idx (aM (w0.get 1 rfl)) (i := p0) x0
     obtain ⟨a, c, g, A, B, Y, a0, b0⟩ := e0
     refine sg (aT sl_EntryS (v0.at 46) B (v0.at 48) rfl (sg (cY eI rfl rfl Y (Below.refl _ _) (Shape.len a0) (sg (aQ iU w0 ?_))))); intro z c0 f0 g0
     refine sgn (aJ (cs := g) eI a0 rfl rfl g0 rfl ?_); intro a y0
     refine aB (wp_seq (wp_seq (aA ?_)))
     have z0 := a0
     obtain ⟨A0, rfl, c⟩ := z0
     have A0 : _ = [I ((y.shelf).flatten[p0]'x0).prio, I ((y.shelf).flatten[p0]'x0).seq, I ((y.shelf).flatten[p0]'x0).run, I ((y.shelf).flatten[p0]'x0).task] := A0
     subst A0
     rcases bd (!(inB ((y.shelf).flatten[p0]'x0).seq 1 (y.seq - 1))) with a | a
     ·have g := inB_iff'.1 (aX a)
      refine rc y0 13 v0.put.put.put.put [] [(64, .bool (decide (((y.shelf).flatten[p0]'x0).seq ∈ ((y.shelf.flatten.take p0).map (·.seq)))))] [qb 0 rfl 1, qb 3 rfl 1, qsb y.seq 1, qc (args := [I ((y.shelf).flatten[p0]'x0).seq, I 1, I (y.seq - 1)]) (v := .bool (inB ((y.shelf).flatten[p0]'x0).seq 1 (y.seq - 1))) func47 rfl (fun W s b => cF W ((y.shelf).flatten[p0]'x0).seq 1 (y.seq - 1)), qk a, qb 0 rfl 1, qc (args := [q0, I ((y.shelf).flatten[p0]'x0).seq]) (v := .bool (decide (((y.shelf).flatten[p0]'x0).seq ∈ ((y.shelf.flatten.take p0).map (·.seq))))) func75 rfl (fun W s b => aQ2 W (bX (s.get 1 rfl)) ((y.shelf).flatten[p0]'x0).seq)] aD fun c z A B Y => (aB (aP (A.at 64) (fun a0 => ?_) (fun a0 => ?_)))
      ·have b0 := decide_eq_true a0
       refine wp_seq (aA (sg (aG (aB (wr (bA results46 rfl ?_))))))
       exact ⟨(fB (by unfold dB; rw [fU (by rintro ⟨M, N, O, P, R, S, T, U, X⟩; exact rB (k := p0) aE (of_decide_eq_true b0) T)])), B.bare⟩
      have b0 := decide_eq_false a0
      refine wp_skip (aA (rn B 3 A [] [(65, q0), (67, I ((y.shelf).flatten[p0]'x0).seq)] [qb 0 rfl 1] aD fun c z => (sg (aU (cs := [I ((y.shelf).flatten[p0]'x0).seq]) (e := 3) (bR (z.at 67) dJ) (bG cP _ _ rfl rfl aZ) B ?_)))); intro Y a0 c0 A
      refine sg (cA (ys := [((y.shelf).flatten[p0]'x0).seq]) cP (z.at 65) rfl rfl A.f2 (Elems.ic (by simp only [I64]; omega) Elems.i0) (by unfold maxLen; omega) aE ?_); intro c f0 g0
      refine sg (aF (v := c) rfl (aB (aA (sg (bO (z.at 48) rfl dL (sg (aH (v := I ((p0 : Int) + 1)) rfl (aB ?_))))))))
      exact ⟨_, y.shelf.flatten.length - (p0 + 1), aE, rfl, p0 + 1, c, aE, (tM aE s0 aE), (pI aE t0 (of_decide_eq_false b0)), rfl, (z.put.put.put.put.put.to aD), (by rw [sU _ aE]; exact g0.f3.f3.f2.d3)⟩
     have g := cU (aY a)
     refine rc y0 13 v0.put.put.put.put [] [(64, .bool true)] [qb 0 rfl 1, qb 3 rfl 1, qsb y.seq 1, qc (args := [I ((y.shelf).flatten[p0]'x0).seq, I 1, I (y.seq - 1)]) (v := .bool (inB ((y.shelf).flatten[p0]'x0).seq 1 (y.seq - 1))) func47 rfl (fun W s b => cF W ((y.shelf).flatten[p0]'x0).seq 1 (y.seq - 1)), qk a] aD fun c g z A B => (aB (gY (z.at 64) rfl (wp_seq (aA (sg (aG (aB (wr (bA results46 rfl ?_)))))))))
     exact ⟨(fB (by unfold dB; rw [fU (by rintro ⟨M, N, O, P, R, S, T, U, X⟩; have hq := S _ (getElem_mem (n := p0) aE); omega)])), A.bare⟩
    refine wp_exit (wp_seq (wp_seq (aA ?_)))
    have s0 : ∀ e ∈ y.shelf.flatten, 1 ≤ e.seq ∧ e.seq ≤ y.seq - 1 := by rw [show p0 = y.shelf.flatten.length by omega, take_length] at s0; exact s0
    have t0 : (y.shelf.flatten.map (·.seq)).Nodup := by rw [show p0 = y.shelf.flatten.length by omega, take_length] at t0; exact t0
    refine rn w0 4 v0.put [] [(72, q), (73, I (y.runs.length : Int)), (74, I 0)] [qb 2 rfl 3, ql E] aD fun a c => (aB (wp_block (bF (fun (m : Nat) (f : Nat → Value) (W : World) => ∃ (B0 : Nat), B0 ≤ y.runs.length ∧ (∀ j, j < B0 → sL y j) ∧ m = y.runs.length - B0 ∧ Ag [(1, pt_ t), (5, n0), (72, q), (73, I (y.runs.length : Int)), (74, I (B0 : Int))] f ∧ St w W ([Res.row (α := Int) 3 q0 ((y.shelf.flatten.take p0).map (·.seq)) [], Res.own (α := List Entry) n0 (y.shelf).flatten o0, Res.bx t [I y.now, I y.seq, p, q] 34])) (y.runs.length - 0) ?_ ?_)))
    ·exact ⟨0, aE, (fun j hj => absurd hj (Nat.not_lt_zero j)), rfl, (c.to aD), w0⟩
    intro a g z A
    obtain ⟨B0, B, C0, rfl, D0, E0⟩ := A
    refine wp_seq (aA (sg (bU (D0.at 74) (D0.at 73) (aB (wp_seq (aP rfl (fun t => ?_) (fun t => ?_)))))))
    ·refine wp_skip (wp_seq (wp_block (wp_seq (aA ?_))))
     have F0 : B0 < y.runs.length := aE
     have e0 := idx E (i := B0) F0
     obtain ⟨a, c, G0, g, z, A, H0, B⟩ := e0
     refine rn E0 3 D0.put [] [(76, I (B0 : Int)), (78, .agg G0.toArray)] [qx z, qrw A (Shape.len H0)] aD fun t J0 => (sg (aQ fN E0 ?_)); intro Y a0 b0 E
     refine sg (aF (J0.at 76) (sgn (aJ (cs := G0) bP H0 rfl (J0.at 78) E rfl ?_))); intro a K0
     refine aB (wp_seq (aA ?_))
     rcases bd (!(gI (y.runs[B0]'F0))) with L0 | L0
     ·have M0 := H0
      obtain ⟨N0, O0, t, c, rfl, g, z, A, rfl⟩ := M0
      rcases Decidable.em ((bJ y (y.runs[B0]'F0).id) = (B0 : Int)) with P0 | P0
      ·have Q0 := gM P0
       refine rc K0 15 J0.put.put [] [(90, .bool false), (91, .agg #[I y.now, I y.seq, p, q]), (92, .agg #[I (y.runs[B0]'F0).id, I (y.runs[B0]'F0).plan.prio, I (y.runs[B0]'F0).plan.most, I (y.runs[B0]'F0).plan.wait, I (y.runs[B0]'F0).plan.tasks, N0, I (y.runs[B0]'F0).state, O0]), (93, n0)] [qb 0 rfl 0, qc (args := [.agg #[I (y.runs[B0]'F0).id, I (y.runs[B0]'F0).plan.prio, I (y.runs[B0]'F0).plan.most, I (y.runs[B0]'F0).plan.wait, I (y.runs[B0]'F0).plan.tasks, N0, I (y.runs[B0]'F0).state, O0]]) (v := .bool (gI (y.runs[B0]'F0))) func97 rfl (fun W s b => yF W (aR H0 s.below)), qk L0, qb 3 rfl 0, qb 0 rfl 0, qc (args := [.agg #[I y.now, I y.seq, p, q], I (y.runs[B0]'F0).id]) (v := I (bJ y (y.runs[B0]'F0).id)) func98 rfl (fun W s b => pV W (aR hc s.below) (y.runs[B0]'F0).id aE), qk Q0, qb 3 rfl 0, qb 0 rfl 0] aD fun t a c g z => ?_
       have hwt := rK (aX L0)
       refine rc g 3 c [] [(96, .bool (!(gS y.now (y.runs[B0]'F0) (y.shelf).flatten)))] [qc (args := [.agg #[I y.now, I y.seq, p, q], .agg #[I (y.runs[B0]'F0).id, I (y.runs[B0]'F0).plan.prio, I (y.runs[B0]'F0).plan.most, I (y.runs[B0]'F0).plan.wait, I (y.runs[B0]'F0).plan.tasks, N0, I (y.runs[B0]'F0).state, O0], n0]) (v := .bool (gS y.now (y.runs[B0]'F0) (y.shelf).flatten)) func99 rfl (fun W s b => RunsOkI W (aR hc s.below) (aR H0 s.below) (aM (s.get 2 rfl)) aE aE aE), .o] aD fun t a R0 c g => (aB (bZ (R0.at 96) (fun S0 => ?_) (fun S0 => ?_)))
       ·refine wp_seq (aA (sg (aG (aB (wr (bA results46 rfl ?_))))))
        exact ⟨(fB (by unfold dB; rw [fU (by rintro ⟨M, N, O, P, R, S, T, U, X⟩; have hq := (U B0 aE aE).2.2; rw [(aY S0)] at hq; cases hq)])), c.bare⟩
       refine wp_skip (aA (sg (bO (R0.at 74) rfl dL (sg (aH (v := I ((B0 : Int) + 1)) rfl (aB ?_))))))
       have T0 := c.f3
       exact ⟨_, y.runs.length - (B0 + 1), aE, rfl, B0 + 1, aE, (fun j hj => by rcases Nat.lt_succ_iff_lt_or_eq.1 hj with t | rfl; exact C0 j t; exact fun _ => ⟨(aX L0), by omega, (aX S0)⟩), rfl, (R0.put.put.to aD), T0.f3.f3.d3⟩
      have Q0 := gL P0
      refine rc K0 15 J0.put.put [] [(90, .bool true)] [qb 0 rfl 0, qc (args := [.agg #[I (y.runs[B0]'F0).id, I (y.runs[B0]'F0).plan.prio, I (y.runs[B0]'F0).plan.most, I (y.runs[B0]'F0).plan.wait, I (y.runs[B0]'F0).plan.tasks, N0, I (y.runs[B0]'F0).state, O0]]) (v := .bool (gI (y.runs[B0]'F0))) func97 rfl (fun W s b => yF W (aR H0 s.below)), qk L0, qb 3 rfl 0, qb 0 rfl 0, qc (args := [.agg #[I y.now, I y.seq, p, q], I (y.runs[B0]'F0).id]) (v := I (bJ y (y.runs[B0]'F0).id)) func98 rfl (fun W s b => pV W (aR hc s.below) (y.runs[B0]'F0).id aE), qk Q0] aD fun t a c g z => ?_
      have hwt := rK (aX L0)
      refine rn g 3 c [] [(96, .bool true)] [] aD fun p q => (aB (gY (q.at 96) rfl (wp_seq (aA (sg (aG (aB (wr (bA results46 rfl ?_)))))))))
      exact ⟨(fB (by unfold dB; rw [fU (by rintro ⟨M, N, O, P, R, S, T, U, X⟩; have hq := (U B0 aE aE).2.1; omega)])), g.bare⟩
     refine rc K0 15 J0.put.put [] [(90, .bool true)] [qw 0 rfl (Shape.len H0), qc (args := [.agg G0.toArray]) (v := .bool (gI (y.runs[B0]'F0))) func97 rfl (fun W s b => yF W (aR H0 s.below)), qk L0] aD fun t a c p q => (rn p 3 c [] [(96, .bool true)] [] aD fun g z => (aB (gY (z.at 96) rfl (wp_seq (aA (sg (aG (aB (wr (bA results46 rfl ?_))))))))))
     exact ⟨(fB (by unfold dB; rw [fU (by rintro ⟨M, N, O, P, R, S, T, U, X⟩; have hq := (U B0 aE aE).1; rw [(aY L0)] at hq; cases hq)])), p.bare⟩
    refine wp_exit (wp_seq (aA ?_))
    have C0 : ∀ j, j < y.runs.length → sL y j := by rw [show B0 = y.runs.length by omega] at C0; exact C0
    refine rc E0 4 D0.put [] [(2, .bool (decide ((gZ y) ≤ 40)))] [qb 2 rfl 0, qc func100 rfl (fun W s b => aI3 W (aR hc s.below) aE), .o] aD fun t a c g p => (aB ?_)
    rcases nem ((gZ y) ≤ 40) with q | q
    ·have z := decide_eq_false q
     refine wr (bA results46 ((c.at 2).trans (congrArg Value.bool z)) ?_)
     exact ⟨(fB (by unfold dB; rw [fU (by rintro ⟨M, N, O, P, R, S, T, U, X⟩; omega)])), g.bare⟩
    have z := decide_eq_true q
    refine wr (bA results46 ((c.at 2).trans (congrArg Value.bool z)) ?_)
    exact ⟨(fB (by unfold dB; rw [oX ⟨by omega, by omega, by omega, by omega, Z, s0, t0, C0, by omega⟩])), g.bare⟩
   have L := gL K
   refine rc d 22 Ag.nil.put.put.put [] [(32, .bool true)] [qb 0 rfl 0, qc func47 rfl (fun W s b => cF W y.now 0 999999980), qk F, qb 0 rfl 1, qc func47 rfl (fun W s b => cF W y.seq 1 1000000000), qk H, qb 0 rfl 2, ql D, qk L] aD fun t a c g p => (aB (gY (c.at 32) rfl (wp_seq (aA (sg (aG (aB (wr (bA results46 rfl ?_)))))))))
   exact ⟨(fB (by unfold dB; rw [fU (by rintro ⟨M, N, O, P, R, S, T, U, X⟩; omega)])), g.bare⟩
  have J := cU (aY H)
  refine rc d 22 Ag.nil.put.put.put [] [(32, .bool true)] [qb 0 rfl 0, qc func47 rfl (fun W s b => cF W y.now 0 999999980), qk F, qb 0 rfl 1, qc func47 rfl (fun W s b => cF W y.seq 1 1000000000), qk H] aD fun t a c g p => (aB (gY (c.at 32) rfl (wp_seq (aA (sg (aG (aB (wr (bA results46 rfl ?_)))))))))
  exact ⟨(fB (by unfold dB; rw [fU (by rintro ⟨M, N, O, P, R, S, T, U, X⟩; omega)])), g.bare⟩
 have G := cU (aY F)
 refine rc d 22 Ag.nil.put.put.put [] [(32, .bool true)] [qb 0 rfl 0, qc func47 rfl (fun W s b => cF W y.now 0 999999980), qk F] aD fun t a c p q => (aB (gY (c.at 32) rfl (wp_seq (aA (sg (aG (aB (wr (bA results46 rfl ?_)))))))))
 exact ⟨(fB (by unfold dB; rw [fU (by rintro ⟨M, N, O, P, R, S, T, U, X⟩; omega)])), p.bare⟩
theorem ShelvesS {y : Yard} (hc : Shape.C w cs y fp) (hsq : 1 ≤ y.seq ∧ y.seq ≤ 1000000000) (hw : y.wt ≤ 1048576) :
  Calls prog 88 #[.agg cs.toArray] w (rB_ (pB (y.shelf.length = 4 ∧ (∀ l ∈ y.shelf, fM l = true) ∧ (∀ e ∈ y.shelf.flatten, 1 ≤ e.seq ∧ e.seq ≤ y.seq - 1) ∧ (y.shelf.flatten.map (·.seq)).Nodup)) w) := by
 have hyr : y.runs.length ≤ y.wt := by unfold Yard.wt wtL; omega
 have hys : y.shelf.length ≤ y.wt := by unfold Yard.wt wtL; omega
 have hfw := qO y
 refine cN func88 rfl ntmps88 aZ (wp_seq (aA (sg (aI (cs := cs) rfl (St.start w) ?_)))); intro t a c d
 refine sg (aG (aB (wp_seq (wp_seq (aA ?_)))))
 have g := hc
 obtain ⟨p, q, z, A, rfl, B, D, E, rfl⟩ := g
 refine rn d 4 Ag.nil.put.put.put [] [(10, .bool (!decide ((y.shelf.length : Int) = 4)))] [qb 0 rfl 2, ql D, .o] aD fun f10 a => (aB (cQ (a.at 10) (fun c => ?_) (fun c => ?_)))
 ·refine wp_seq (aA (sg (aG (aB (wr (bA results88 rfl ?_))))))
  exact ⟨(fB (by rw [fU (by rintro ⟨F, G, H, J⟩; omega)])), d.bare⟩
 refine wp_skip (wp_seq (wp_seq (aA (sg (aG (aB (wp_block (bF (fun (m : Nat) (f : Nat → Value) (W : World) => ∃ (k : Nat), k ≤ y.shelf.length ∧ (∀ l ∈ y.shelf.take k, fM l = true) ∧ m = y.shelf.length - k ∧ Ag [(1, pt_ t), (3, I (k : Int))] f ∧ St w W ([Res.bx t [I y.now, I y.seq, p, q] 34])) (y.shelf.length - 0) ?_ ?_))))))))
 ·exact ⟨0, aE, (by simp), rfl, (a.put.to aD), d⟩
 intro c g K z
 obtain ⟨k, hk, L, rfl, A, M⟩ := z
 refine wp_seq (wp_seq (aA (rn M 5 A [] [(15, .bool (decide ((k : Int) < (y.shelf.length : Int))))] [qb 0 rfl 2, ql D, .o] aD fun B N => (aB (aP (N.at 15) (fun E => ?_) (fun E => ?_))))))
 ·refine wp_skip (wp_seq (wp_block (wp_seq (aA ?_))))
  have O : k < y.shelf.length := aE
  have P := idx D (i := k) O
  obtain ⟨a, c, d, g, R, S, z, A⟩ := P
  have T := z
  obtain ⟨B, rfl, U⟩ := T
  refine rc M 7 N [] [(24, .bool (!(fM (y.shelf[k]'O))))] [qb 0 rfl 2, qx R, qr S 0, qc (args := [B]) (v := .bool (fM (y.shelf[k]'O))) func154 rfl (fun W s b => ShelfOkS W (U.below s.below)), .o] aD fun a c d g z => (aB (bZ (d.at 24) (fun A => ?_) (fun A => ?_)))
  ·refine wp_seq (aA (sg (aG (aB (wr (bA results88 rfl ?_))))))
   exact ⟨(fB (by rw [fU (by rintro ⟨F, G, H, J⟩; have hq := G _ (getElem_mem (n := k) aE); rw [(aY A)] at hq; cases hq)])), g.bare⟩
  refine wp_skip (aA (rn g 3 d [3] [(3, I ((k : Int) + 1))] [qad (k : Int) 1] aD fun a c => (aB ?_)))
  exact ⟨_, y.shelf.length - (k + 1), aE, rfl, k + 1, aE, (tM aE L (aX A)), rfl, (c.to aD), g⟩
 refine wp_exit (wp_seq (aA ?_))
 have L : ∀ l ∈ y.shelf, fM l = true := by rw [show k = y.shelf.length by omega, take_length] at L; exact L
 refine sg (aS (cs := [I y.now, I y.seq, p, q]) aL rfl (N.at 1) (M.get 0 rfl) rfl rfl (sg (bC func91 rfl rfl ((aI7 K (aR hc M.below) aE).mono ?_)))); rintro _ a ⟨X, Y, rfl, c⟩; refine ⟨_, rfl, ?_⟩
 have d := St.call M c
 refine sg (aF (v := X) rfl (aB (wp_seq (wp_seq (aA (sg (aG (aB (wp_block (bF (fun (m : Nat) (f : Nat → Value) (W : World) => ∃ (Z : Nat), Z ≤ y.shelf.flatten.length ∧ (∀ e ∈ y.shelf.flatten.take Z, 1 ≤ e.seq ∧ e.seq ≤ y.seq - 1) ∧ ((y.shelf.flatten.take Z).map (·.seq)).Nodup ∧ m = y.shelf.flatten.length - Z ∧ Ag [(1, pt_ t), (4, X), (5, I (Z : Int))] f ∧ St w W ([Res.own (α := List Entry) X (y.shelf).flatten Y, Res.bx t [I y.now, I y.seq, p, q] 34])) (y.shelf.flatten.length - 0) ?_ ?_))))))))))
 ·exact ⟨0, aE, (by simp), (by simp), rfl, (N.put.put.put.put.to aD), d⟩
 intro a c g z
 obtain ⟨Z, A, a0, b0, rfl, B, c0⟩ := z
 refine wp_seq (wp_seq (aA (rn c0 4 B [] [(30, .bool (decide ((Z : Int) < ((y.shelf).flatten.length : Int))))] [ql (aM (c0.get 0 rfl)), .o] aD fun D e0 => (aB (aP (e0.at 30) (fun E => ?_) (fun E => ?_))))))
 ·refine wp_skip (wp_seq (wp_block (wp_seq (wp_seq ?_))))
  have f0 : Z < (y.shelf).flatten.length := aE
  have P := idx (aM (c0.get 0 rfl)) (i := Z) f0
  obtain ⟨a, c, d, g, g0, h0, z, A⟩ := P
  have j0 := z
  obtain ⟨k0, rfl, B⟩ := j0
  have k0 : _ = [I ((y.shelf).flatten[Z]'f0).prio, I ((y.shelf).flatten[Z]'f0).seq, I ((y.shelf).flatten[Z]'f0).run, I ((y.shelf).flatten[Z]'f0).task] := k0
  subst k0
  refine rd c0 e0 [] [(42, .bool (!(inB ((y.shelf).flatten[Z]'f0).seq 1 (y.seq - 1))))] [qx g0, qn h0 1, qb 1 rfl 1, qsb y.seq 1, qc (args := [I ((y.shelf).flatten[Z]'f0).seq, I 1, I (y.seq - 1)]) (v := .bool (inB ((y.shelf).flatten[Z]'f0).seq 1 (y.seq - 1))) func43 rfl (fun W s b => cR W ((y.shelf).flatten[Z]'f0).seq 1 (y.seq - 1)), .o] aD aD fun a c d g z => (bZ (d.at 42) (fun A => ?_) (fun A => ?_))
  ·have B := cU (aY A)
   refine wp_seq (aA (sg (aG (aB (wr (bA results88 rfl ?_))))))
   exact ⟨(fB (by rw [fU (by rintro ⟨F, G, H, J⟩; have hq := H _ (getElem_mem (n := Z) aE); omega)])), g.bare⟩
  have B := inB_iff'.1 (aX A)
  refine wp_skip (wp_seq (aA (sg (aG (aB (wp_block (bF (fun (m : Nat) (f : Nat → Value) (W : World) => ∃ (j : Nat), Z < y.shelf.flatten.length ∧ j ≤ Z ∧ (y.shelf.flatten[Z]'(by omega)).seq ∉ (y.shelf.flatten.take j).map (·.seq) ∧ m = Z - j ∧ Ag [(1, pt_ t), (4, X), (5, I (Z : Int)), (6, I (j : Int))] f ∧ St w W ([Res.own (α := List Entry) X (y.shelf).flatten Y, Res.bx t [I y.now, I y.seq, p, q] 34])) (Z - 0) ?_ ?_)))))))
  ·exact ⟨0, aE, aE, (by simp), rfl, (d.put.to aD), g⟩
  intro a c z A
  obtain ⟨j, hk2b, hj, hJ, rfl, B, l0⟩ := A
  refine wp_seq (wp_seq (aA (rn l0 3 B [] [(45, .bool (decide ((j : Int) < (Z : Int))))] [.o] aD fun t m0 => (aB (aP (m0.at 45) (fun p => ?_) (fun p => ?_))))))
  ·refine wp_skip (wp_seq (wp_block (wp_seq ?_)))
   have n0 : j < (y.shelf).flatten.length := aE
   have P := idx (aM (l0.get 0 rfl)) (i := j) n0
   obtain ⟨a, c, d, g, o0, p0, q, z⟩ := P
   have q0 := q
   obtain ⟨s0, rfl, t⟩ := q0
   have s0 : _ = [I ((y.shelf).flatten[j]'n0).prio, I ((y.shelf).flatten[j]'n0).seq, I ((y.shelf).flatten[j]'n0).run, I ((y.shelf).flatten[j]'n0).task] := s0
   subst s0
   have f0 : Z < (y.shelf).flatten.length := aE
   have P := idx (aM (l0.get 0 rfl)) (i := Z) f0
   obtain ⟨a, c, t, d, t0, v0, g, p⟩ := P
   have w0 := g
   obtain ⟨x0, rfl, q⟩ := w0
   have x0 : _ = [I ((y.shelf).flatten[Z]'f0).prio, I ((y.shelf).flatten[Z]'f0).seq, I ((y.shelf).flatten[Z]'f0).run, I ((y.shelf).flatten[Z]'f0).task] := x0
   subst x0
   refine rd l0 m0 [] [(58, .bool (decide (((y.shelf).flatten[j]'n0).seq = ((y.shelf).flatten[Z]'f0).seq)))] [qx o0, qn p0 1, qx t0, qn v0 1, .o] aD aD fun t a c d g => (aP (c.at 58) (fun p => ?_) (fun p => ?_))
   ·refine wp_seq (aA (sg (aG (aB (wr (bA results88 rfl ?_))))))
    exact ⟨(fB (by rw [fU (by rintro ⟨F, G, H, J⟩; exact rB (k := Z) aE (by rw [← p]; exact mem_map_of_mem (uW aE aE)) J)])), d.bare⟩
   refine wp_skip (aA (rn d 3 c [6] [(6, I ((j : Int) + 1))] [qad (j : Int) 1] aD fun t a => (aB ?_)))
   exact ⟨_, Z - (j + 1), aE, rfl, j + 1, aE, aE, (by rw [sU _ aE, mem_append]; rintro (hq | hq); exact hJ hq; rw [mem_singleton] at hq; exact p hq.symm), rfl, (a.to aD), d⟩
  refine wp_exit (aA (rn l0 3 m0 [5] [(5, I ((Z : Int) + 1))] [qad (Z : Int) 1] aD fun t c => (aB ?_)))
  exact ⟨_, y.shelf.flatten.length - (Z + 1), aE, rfl, Z + 1, aE, (tM aE a0 aE), (pI aE b0 (by rw [show j = Z by omega] at hJ; exact hJ)), rfl, (c.to aD), l0⟩
 refine wp_exit (wp_seq (aA (sg (aG (aB (wr (bA results88 rfl ?_)))))))
 have a0 : ∀ e ∈ y.shelf.flatten, 1 ≤ e.seq ∧ e.seq ≤ y.seq - 1 := by rw [show Z = y.shelf.flatten.length by omega, take_length] at a0; exact a0
 have b0 : (y.shelf.flatten.map (·.seq)).Nodup := by rw [show Z = y.shelf.flatten.length by omega, take_length] at b0; exact b0
 exact ⟨(fB (by rw [oX ⟨by omega, L, a0, b0⟩])), c0.bare⟩
theorem nD {y : Yard} (hc : Shape.C w cs y fp) (hw : y.wt ≤ 1048576) :
  Calls prog 42 #[.agg cs.toArray] w (rB_ (dB y) w) := by
 have hyr : y.runs.length ≤ y.wt := by unfold Yard.wt wtL; omega
 have hys : y.shelf.length ≤ y.wt := by unfold Yard.wt wtL; omega
 have hfw := qO y
 refine cN func42 rfl ntmps42 aZ (wp_seq (aA (sg (aI (cs := cs) rfl (St.start w) ?_)))); intro t a c d
 refine sg (aG (aB (wp_seq (wp_seq (aA ?_)))))
 have g := hc
 obtain ⟨n, p, q, z, rfl, A, B, D, rfl⟩ := g
 rcases bd (!(inB y.now 0 999999980)) with E | E
 ·have F := inB_iff'.1 (aX E)
  rcases bd (!(inB y.seq 1 1000000000)) with G | G
  ·have H := inB_iff'.1 (aX G)
   rcases nem (8 < (y.runs.length : Int)) with J | J
   ·have K := decide_eq_false J
    refine rc d 21 Ag.nil.put.put.put [] [(26, .bool (!(pB (y.shelf.length = 4 ∧ (∀ l ∈ y.shelf, fM l = true) ∧ (∀ e ∈ y.shelf.flatten, 1 ≤ e.seq ∧ e.seq ≤ y.seq - 1) ∧ (y.shelf.flatten.map (·.seq)).Nodup))))] [qb 0 rfl 0, qc func43 rfl (fun W s b => cR W y.now 0 999999980), qk E, qb 0 rfl 1, qc func43 rfl (fun W s b => cR W y.seq 1 1000000000), qk G, qb 0 rfl 3, ql D, qk K, qb 0 rfl 0, qc func88 rfl (fun W s b => ShelvesS W (aR hc s.below) aE aE), .o] aD fun f13 a c g q => (aB (bZ (c.at 26) (fun z => ?_) (fun z => ?_)))
    ·refine wp_seq (aA (sg (aG (aB (wr (bA results42 rfl ?_))))))
     exact ⟨(fB (by unfold dB; rw [fU (by rintro ⟨L, M, N, O, P, R, S, T, U⟩; exact aJ5 (aY z) ⟨N, P, R, S⟩)])), g.bare⟩
    refine wp_skip (wp_seq (wp_seq (aA ?_)))
    have hSH := pB_iff.1 (aX z)
    refine sg (aG (aB (wp_block (bF (fun (m : Nat) (f : Nat → Value) (W : World) => ∃ (X : Nat), X ≤ y.runs.length ∧ (∀ j, j < X → ∀ h : j < y.runs.length, gI y.runs[j] = true ∧ bJ y y.runs[j].id = (j : Int)) ∧ m = y.runs.length - X ∧ Ag [(1, pt_ t), (3, I (X : Int))] f ∧ St w W ([Res.bx t [I y.now, I y.seq, n, p] 34])) (y.runs.length - 0) ?_ ?_))))
    ·exact ⟨0, aE, (fun j hj => absurd hj (Nat.not_lt_zero j)), rfl, (c.put.to aD), g⟩
    intro a q Y z
    obtain ⟨X, A, Z, rfl, B, a0⟩ := z
    refine wp_seq (wp_seq (aA (rn a0 5 B [] [(31, .bool (decide ((X : Int) < (y.runs.length : Int))))] [qb 0 rfl 3, ql D, .o] aD fun b0 c0 => (aB (aP (c0.at 31) (fun e0 => ?_) (fun e0 => ?_))))))
    ·refine wp_skip (wp_seq (wp_block (wp_seq ?_)))
     have f0 : X < y.runs.length := aE
     rcases bd (!(gI (y.runs[X]'f0))) with g0 | g0
     ·have f0 : X < y.runs.length := aE
      have h0 := idx D (i := X) f0
      obtain ⟨a, c, g, q, j0, k0, l0, z⟩ := h0
      have m0 := l0
      obtain ⟨A, B, b0, e0, rfl, n0, o0, p0, rfl⟩ := m0
      refine rd a0 c0 [] [(52, .bool (!decide ((bJ y (y.runs[X]'f0).id) = (X : Int))))] [qb 0 rfl 3, qx j0, qr k0 0, qc (args := [.agg #[I (y.runs[X]'f0).id, I (y.runs[X]'f0).plan.prio, I (y.runs[X]'f0).plan.most, I (y.runs[X]'f0).plan.wait, I (y.runs[X]'f0).plan.tasks, A, I (y.runs[X]'f0).state, B]]) (v := .bool (gI (y.runs[X]'f0))) func89 rfl (fun W s b => rS W (aR l0 s.below)), qk g0, qb 0 rfl 0, qb 0 rfl 3, qx j0, qr k0 0, qc (args := [.agg #[I y.now, I y.seq, n, p], I (y.runs[X]'f0).id]) (v := I (bJ y (y.runs[X]'f0).id)) func90 rfl (fun W s b => rT W (aR hc s.below) (y.runs[X]'f0).id aE), .o] aD aD fun a c q0 s0 g => (cQ (q0.at 52) (fun q => ?_) (fun q => ?_))
      ·refine wp_seq (aA (sg (aG (aB (wr (bA results42 rfl ?_))))))
       exact ⟨(fB (by unfold dB; rw [fU (by rintro ⟨L, M, N, O, P, R, S, T, U⟩; have hq := (T X aE aE).2.1; omega)])), s0.bare⟩
      refine wp_skip (aA (sg (aH (q0.at 3) (sg (bO rfl rfl dL (sg (aF (v := I ((X : Int) + 1)) rfl (aB ?_))))))))
      exact ⟨_, y.runs.length - (X + 1), aE, rfl, X + 1, aE, (fun j hj => by rcases Nat.lt_succ_iff_lt_or_eq.1 hj with t0 | rfl; exact Z j t0; exact fun _ => ⟨(aX g0), by omega⟩), rfl, (q0.put.put.put.to aD), s0⟩
     have f0 : X < y.runs.length := aE
     have h0 := idx D (i := X) f0
     obtain ⟨a, c, g, q, v0, w0, x0, z⟩ := h0
     have y0 := x0
     obtain ⟨A, B, b0, e0, rfl, j0, k0, l0, rfl⟩ := y0
     refine rd a0 c0 [] [(52, .bool true)] [qb 0 rfl 3, qx v0, qr w0 0, qc (args := [.agg #[I (y.runs[X]'f0).id, I (y.runs[X]'f0).plan.prio, I (y.runs[X]'f0).plan.most, I (y.runs[X]'f0).plan.wait, I (y.runs[X]'f0).plan.tasks, A, I (y.runs[X]'f0).state, B]]) (v := .bool (gI (y.runs[X]'f0))) func89 rfl (fun W s b => rS W (aR x0 s.below)), qk g0] aD aD fun a c g q z => (gY (g.at 52) rfl (wp_seq (aA (sg (aG (aB (wr (bA results42 rfl ?_))))))))
     exact ⟨(fB (by unfold dB; rw [fU (by rintro ⟨L, M, N, O, P, R, S, T, U⟩; have hq := (T X aE aE).1; rw [(aY g0)] at hq; cases hq)])), q.bare⟩
    refine wp_exit (wp_seq (aA (sg (aS (cs := [I y.now, I y.seq, n, p]) aL rfl (c0.at 1) (a0.get 0 rfl) rfl rfl (sg (bC func91 rfl rfl ((aI7 Y (aR hc a0.below) aE).mono ?_))))))); rintro _ a ⟨c, g, rfl, z⟩; refine ⟨_, rfl, ?_⟩
    have q := St.call a0 z
    refine sg (aF (v := c) rfl (aB (wp_seq (wp_seq (aA (sg (aG (aB (wp_block (bF (fun (m : Nat) (f : Nat → Value) (W : World) => ∃ (z0 : Nat), z0 ≤ y.runs.length ∧ (∀ j, j < z0 → sL y j) ∧ m = y.runs.length - z0 ∧ Ag [(1, pt_ t), (4, c), (5, I (z0 : Int))] f ∧ St w W ([Res.own (α := List Entry) c (y.shelf).flatten g, Res.bx t [I y.now, I y.seq, n, p] 34])) (y.runs.length - 0) ?_ ?_))))))))))
    ·exact ⟨0, aE, (fun j hj => absurd hj (Nat.not_lt_zero j)), rfl, (c0.put.put.put.put.to aD), q⟩
    intro a z A B
    obtain ⟨z0, X, A0, rfl, Y, B0⟩ := B
    refine wp_seq (wp_seq (aA (rn B0 5 Y [] [(59, .bool (decide ((z0 : Int) < (y.runs.length : Int))))] [qb 1 rfl 3, ql D, .o] aD fun t C0 => (aB (aP (C0.at 59) (fun g => ?_) (fun g => ?_))))))
    ·refine wp_skip (wp_seq (wp_block (wp_seq ?_)))
     have hwt := rK (Z z0 aE aE).1
     have a : z0 < y.runs.length := aE
     have h0 := idx D (i := z0) a
     obtain ⟨q, z, A, B, t, X, Y, a0⟩ := h0
     refine rd B0 C0 [] [(70, .bool (!(gS y.now (y.runs[z0]'a) (y.shelf).flatten)))] [qb 1 rfl 0, qb 1 rfl 3, qx t, qrw X (Shape.len Y), qc (args := [.agg #[I y.now, I y.seq, n, p], .agg A.toArray, c]) (v := .bool (gS y.now (y.runs[z0]'a) (y.shelf).flatten)) func92 rfl (fun W s b => RunsOkS W (aR hc s.below) (aR Y s.below) (aM (s.get 0 rfl)) aE aE aE), .o] aD aD fun t g q D0 z => (bZ (q.at 70) (fun E0 => ?_) (fun E0 => ?_))
     ·refine wp_seq (aA (sg (aG (aB (wr (bA results42 rfl ?_))))))
      exact ⟨(fB (by unfold dB; rw [fU (by rintro ⟨L, M, N, O, P, R, S, T, U⟩; have hq := (T z0 aE aE).2.2; rw [(aY E0)] at hq; cases hq)])), D0.bare⟩
     refine wp_skip (aA (rn D0 3 q [5] [(5, I ((z0 : Int) + 1))] [qad (z0 : Int) 1] aD fun t F0 => (aB ?_)))
     exact ⟨_, y.runs.length - (z0 + 1), aE, rfl, z0 + 1, aE, (fun j hj => by rcases Nat.lt_succ_iff_lt_or_eq.1 hj with t0 | rfl; exact A0 j t0; exact fun _ => ⟨(Z _ aE aE).1, (Z _ aE aE).2, (aX E0)⟩), rfl, (F0.to aD), D0⟩
    refine wp_exit (wp_seq (aA ?_))
    have A0 : ∀ j, j < y.runs.length → sL y j := by rw [show z0 = y.runs.length by omega] at A0; exact A0
    refine rc B0 4 C0 [] [(2, .bool (decide ((gZ y) ≤ 40)))] [qb 1 rfl 0, qc func93 rfl (fun W s b => aI2 W (aR hc s.below) aE), .o] aD fun t a c g n => (aB ?_)
    rcases nem ((gZ y) ≤ 40) with p | p
    ·have q := decide_eq_false p
     refine wr (bA results42 ((c.at 2).trans (congrArg Value.bool q)) ?_)
     exact ⟨(fB (by unfold dB; rw [fU (by rintro ⟨L, M, N, O, P, R, S, T, U⟩; omega)])), g.bare⟩
    have q := decide_eq_true p
    refine wr (bA results42 ((c.at 2).trans (congrArg Value.bool q)) ?_)
    exact ⟨(fB (by unfold dB; rw [oX ⟨by omega, by omega, hSH.1, by omega, hSH.2.1, hSH.2.2.1, hSH.2.2.2, A0, by omega⟩])), g.bare⟩
   have K := decide_eq_true J
   refine rc d 21 Ag.nil.put.put.put [] [(26, .bool true)] [qb 0 rfl 0, qc func43 rfl (fun W s b => cR W y.now 0 999999980), qk E, qb 0 rfl 1, qc func43 rfl (fun W s b => cR W y.seq 1 1000000000), qk G, qb 0 rfl 3, ql D, qk K] aD fun t a c g n => (aB (gY (c.at 26) rfl (wp_seq (aA (sg (aG (aB (wr (bA results42 rfl ?_)))))))))
   exact ⟨(fB (by unfold dB; rw [fU (by rintro ⟨L, M, N, O, P, R, S, T, U⟩; omega)])), g.bare⟩
  have H := cU (aY G)
  refine rc d 21 Ag.nil.put.put.put [] [(26, .bool true)] [qb 0 rfl 0, qc func43 rfl (fun W s b => cR W y.now 0 999999980), qk E, qb 0 rfl 1, qc func43 rfl (fun W s b => cR W y.seq 1 1000000000), qk G] aD fun t a c g n => (aB (gY (c.at 26) rfl (wp_seq (aA (sg (aG (aB (wr (bA results42 rfl ?_)))))))))
  exact ⟨(fB (by unfold dB; rw [fU (by rintro ⟨L, M, N, O, P, R, S, T, U⟩; omega)])), g.bare⟩
 have F := cU (aY E)
 refine rc d 21 Ag.nil.put.put.put [] [(26, .bool true)] [qb 0 rfl 0, qc func43 rfl (fun W s b => cR W y.now 0 999999980), qk E] aD fun t a c n p => (aB (gY (c.at 26) rfl (wp_seq (aA (sg (aG (aB (wr (bA results42 rfl ?_)))))))))
 exact ⟨(fB (by unfold dB; rw [fU (by rintro ⟨L, M, N, O, P, R, S, T, U⟩; omega)])), n.bare⟩
theorem St.fst2 {w0 W : World} {a b : Res} {rs : List Res} (h : St w0 W (a :: b :: rs)) : St w0 W [a, b] := h.sub (((nil_sublist rs).cons_cons b).cons_cons a)
theorem zJ (xs : List (List Entry)) (k : Nat) (h : k < xs.length) : xs.take k ++ [xs[k]] = xs.take (k + 1) := (take_succ_eq_append_getElem h).symm
theorem aE9 (xs : List Run) (k : Nat) (h : k < xs.length) : xs.take k ++ [xs[k]] = xs.take (k + 1) := (take_succ_eq_append_getElem h).symm
theorem qH (y : Yard) (k : Nat) (h : k < y.shelf.length) : y.shelf[k].length + y.shelf.length ≤ y.wt := by
 unfold Yard.wt wtL
 have := pX (fun z : List Entry => z.length) y.shelf k h
 omega

theorem iL {v : Value} {xs : List Entry} {fp : List Nat} (h : Sl w v xs fp) (hw : xs.length ≤ 1048576) :
  Calls prog 174 #[v] w fun e w' => ∃ (v' : Value), e = .returned v' ∧ St w w' [Res.row 131 v' xs []] := by
 refine cN func174 rfl ntmps174 aZ (wp_seq (aA (sg (aF (v := .slice none 0 0) rfl (aB (wp_seq (aA (sg (aH (v := v) rfl ?_)))))))))
 have s := (St.start w).row_nil (α := Entry) 131
 refine sg (cX fE cG rfl rfl h (Below.refl _ _) s (by simp only [length_nil]; unfold maxLen; omega) (by simp only [length_nil]; omega) ?_); intro t a b
 refine sg (aF (v := t) rfl (aB (wr (bA results174 rfl ?_))))
 exact ⟨_, rfl, b.only 0 rfl⟩
theorem aA6 {p : Plan} (hc : Shape.C w cs p fp) (hw : p.wt ≤ 1048576) :
  Calls prog 222 #[.agg cs.toArray] w (rO_ p w) := by
 have s : p.edges.length ≤ 1048576 := hw
 refine cN func222 rfl ntmps222 aZ (wp_seq (aA (sg (aI (cs := cs) rfl (St.start w) ?_)))); intro t a b c
 refine sg (aQ vD c ?_); intro d g j n
 refine aB (wp_seq (aA ?_))
 have q := hc
 obtain ⟨s, z, rfl, A, B, rfl⟩ := q
 refine sg (aN lW rfl (sg (aW xE rfl rfl (n.get 1 rfl) (i := 4) rfl rfl ?_)))
 have t := n.row_nil (α := Edge) 176
 refine sg (cX wX tL rfl rfl B t.below t (by simp only [length_nil]; unfold maxLen; omega) (by simp only [length_nil]; omega) ?_); intro s a b
 refine sg (aN lW rfl (sgn (aO (v := s) aD rfl rfl (Sl.cells (bX (b.f2.get 1 rfl))) (Sl.one (bX (b.f2.get 1 rfl))) b.f2 bH rfl ?_))); intro t c
 refine aB (wp_seq (aA (sg (aS (cs := [I p.prio, I p.most, I p.wait, I p.tasks, s]) gU rfl rfl (c.get 0 rfl) rfl rfl (sgn (aK aD rfl rfl (aC rfl (aC rfl (aC rfl (aC rfl (aC (Sl.one (bX (c.f2.get 2 rfl))) bE))))) c.f2 bH rfl ?_)))))); intro t a
 refine aB (wr (eT gU rfl results222 rfl (a.get 0 rfl) rfl ?_))
 have b := a.f2.shut
 obtain ⟨s, d⟩ := b
 have g := tX (x := p) d fF
 exact ⟨_, _, rfl, g.only 0 rfl⟩
theorem aA5 {p : Plan} (hc : Shape.C w cs p fp) (hw : p.wt ≤ 1048576) :
  Calls prog 193 #[.agg cs.toArray] w (rO_ p w) := by
 have s : p.edges.length ≤ 1048576 := hw
 refine cN func193 rfl ntmps193 aZ (wp_seq (aA (sg (aI (cs := cs) rfl (St.start w) ?_)))); intro t a b c
 refine sg (aQ vD c ?_); intro d g j n
 refine aB (wp_seq (aA (sg (aU (cs := []) (e := 176) dJ (bT tL _) n ?_)))); intro s q z A
 have A := A.row_empty (α := Edge)
 have B := hc
 obtain ⟨t, a, rfl, b, D, rfl⟩ := B
 refine sg (aN lW rfl (sg (aW xE rfl rfl (A.get 2 rfl) (i := 4) rfl rfl (sg (cX wX tL rfl rfl D A.below A (by simp only [length_nil]; unfold maxLen; omega) (by simp only [length_nil]; omega) ?_))))); intro s t a
 refine sg (aN lW rfl (sgn (aO (v := s) aD rfl rfl (Sl.cells (bX (a.f2.get 1 rfl))) (Sl.one (bX (a.f2.get 1 rfl))) a.f2 bH rfl ?_))); intro b c
 refine aB (wp_seq (aA (sg (aS (cs := [I p.prio, I p.most, I p.wait, I p.tasks, s]) gU rfl rfl (c.get 0 rfl) rfl rfl (sgn (aK aD rfl rfl (aC rfl (aC rfl (aC rfl (aC rfl (aC (Sl.one (bX (c.f2.get 2 rfl))) bE))))) c.f2 bH rfl ?_)))))); intro t a
 refine aB (wr (eT gU rfl results193 rfl (a.get 0 rfl) rfl ?_))
 have b := a.f2.shut
 obtain ⟨s, d⟩ := b
 have g := tX (x := p) d fF
 exact ⟨_, _, rfl, g.only 0 rfl⟩
theorem aI9 {r : Run} (hc : Shape.C w cs r fp) (hw : r.wt ≤ 1048576) :
  Calls prog 175 #[.agg cs.toArray] w (rO_ r w) := by
 have s : r.plan.wt + r.tasks.length ≤ 1048576 := hw
 refine cN func175 rfl ntmps175 aZ (wp_seq (aA (sg (aI (cs := cs) rfl (St.start w) ?_)))); intro t a b c
 refine sg (aQ fN c ?_); intro d g j n
 refine aB (wp_seq (aA ?_))
 have p := hc
 obtain ⟨s, q, z, A, rfl, B, D, E, rfl⟩ := p
 refine sg (aN lD rfl (sg (aS (cs := [I r.plan.prio, I r.plan.most, I r.plan.wait, I r.plan.tasks, s]) gU rfl rfl (n.get 1 rfl) rfl rfl (sg (bC func222 rfl rfl ((aA6 g (show Shape.C _ [I r.plan.prio, I r.plan.most, I r.plan.wait, I r.plan.tasks, s] r.plan _ from ⟨_, _, rfl, fF, (D.below n.below), rfl⟩) aE).mono ?_)))))); rintro _ t ⟨a, b, rfl, c⟩; refine ⟨_, rfl, ?_⟩
 have d := St.call n c
 refine sg (aN lD rfl ?_)
 have F := lT d
 obtain ⟨G, s, H, g, J⟩ := F
 subst H
 refine sgn (aK aD rfl rfl (aC rfl (aC rfl (aC rfl (aC rfl (aC (Sl.one (aM (J.f2.get 1 rfl))) bE))))) J.f2 bH rfl ?_); intro s t
 refine aB (wp_seq (aA (sg (aN hH rfl (sg (aW pN rfl rfl (t.get 0 rfl) (i := 7) rfl rfl ?_))))))
 have a := t.row_nil (α := Task) 140
 refine sg (cX wW iN rfl rfl E a.below a (by simp only [length_nil]; unfold maxLen; omega) (by simp only [length_nil]; omega) ?_); intro s b c
 refine sg (aN hH rfl (sgn (aO (v := s) aD rfl rfl (Sl.cells (bX (c.f1.get 1 rfl))) (Sl.one (bX (c.f1.get 1 rfl))) c.f1 bH rfl ?_))); intro t a
 refine aB (wp_seq (aA (sg (aS (cs := [I r.id, I r.plan.prio, I r.plan.most, I r.plan.wait, I r.plan.tasks, G, I r.state, s]) bP rfl rfl (a.get 0 rfl) rfl rfl (sgn (aK aD rfl rfl (aC rfl (aC rfl (aC rfl (aC rfl (aC rfl (aC (Sl.one (aM (a.f3.get 3 rfl))) (aC rfl (aC (Sl.one (bX (a.f3.get 2 rfl))) bE)))))))) a.f3 bH rfl ?_)))))); intro t b
 refine aB (wr (eT bP rfl results175 rfl (b.get 0 rfl) rfl ?_))
 have F := b.f2.shut
 obtain ⟨s, c⟩ := F
 have d := eP (x := r) c.f3 fF
 exact ⟨_, _, rfl, d.only 0 rfl⟩
theorem pW {r : Run} (hc : Shape.C w cs r fp) (hw : r.wt ≤ 1048576) :
  Calls prog 136 #[.agg cs.toArray] w (rO_ r w) := by
 have s : r.plan.wt + r.tasks.length ≤ 1048576 := hw
 refine cN func136 rfl ntmps136 aZ (wp_seq (aA (sg (aI (cs := cs) rfl (St.start w) ?_)))); intro t a b c
 refine sg (aQ fN c ?_); intro d g j n
 refine aB (wp_seq (aA ?_))
 have p := hc
 obtain ⟨s, q, z, A, rfl, B, D, E, rfl⟩ := p
 refine sg (aN lD rfl (sg (aS (cs := [I r.plan.prio, I r.plan.most, I r.plan.wait, I r.plan.tasks, s]) gU rfl rfl (n.get 1 rfl) rfl rfl (sg (bC func193 rfl rfl ((aA5 g (show Shape.C _ [I r.plan.prio, I r.plan.most, I r.plan.wait, I r.plan.tasks, s] r.plan _ from ⟨_, _, rfl, fF, (D.below n.below), rfl⟩) aE).mono ?_)))))); rintro _ t ⟨a, b, rfl, c⟩; refine ⟨_, rfl, ?_⟩
 have d := St.call n c
 refine sg (aN lD rfl ?_)
 have F := lT d
 obtain ⟨G, s, H, g, J⟩ := F
 subst H
 refine sgn (aK aD rfl rfl (aC rfl (aC rfl (aC rfl (aC rfl (aC (Sl.one (aM (J.f2.get 1 rfl))) bE))))) J.f2 bH rfl ?_); intro s t
 refine aB (wp_seq (aA (sg (aU (cs := []) (e := 140) dJ (bT iN _) t ?_)))); intro a b c d
 have d := d.row_empty (α := Task)
 refine sg (aN hH rfl (sg (aW pN rfl rfl (d.get 1 rfl) (i := 7) rfl rfl (sg (cX wW iN rfl rfl E d.below d (by simp only [length_nil]; unfold maxLen; omega) (by simp only [length_nil]; omega) ?_))))); intro s t a
 refine sg (aN hH rfl (sgn (aO (v := s) aD rfl rfl (Sl.cells (bX (a.f1.get 1 rfl))) (Sl.one (bX (a.f1.get 1 rfl))) a.f1 bH rfl ?_))); intro t b
 refine aB (wp_seq (aA (sg (aS (cs := [I r.id, I r.plan.prio, I r.plan.most, I r.plan.wait, I r.plan.tasks, G, I r.state, s]) bP rfl rfl (b.get 0 rfl) rfl rfl (sgn (aK aD rfl rfl (aC rfl (aC rfl (aC rfl (aC rfl (aC rfl (aC (Sl.one (aM (b.f3.get 3 rfl))) (aC rfl (aC (Sl.one (bX (b.f3.get 2 rfl))) bE)))))))) b.f3 bH rfl ?_)))))); intro t a
 refine aB (wr (eT bP rfl results136 rfl (a.get 0 rfl) rfl ?_))
 have F := a.f2.shut
 obtain ⟨s, c⟩ := F
 have d := eP (x := r) c.f3 fF
 exact ⟨_, _, rfl, d.only 0 rfl⟩
theorem yI {y : Yard} (hc : Shape.C w cs y fp) (hw : y.wt ≤ 1048576) :
  Calls prog 108 #[.agg cs.toArray] w fun e w' => ∃ (vs vr : Value) (fs fe : List Nat), e = .returned (.agg #[I y.now, I y.seq, vs, vr]) ∧ St w w' [Res.own vs y.shelf fs, Res.row (α := Run) 123 vr y.runs fe] := by
 have hys : y.shelf.length + y.runs.length ≤ y.wt := by unfold Yard.wt wtL; omega
 refine cN func108 rfl ntmps108 aZ (wp_seq (aA (sg (aI (cs := cs) rfl (St.start w) ?_)))); intro s t a b
 refine sg (aQ cI b ?_); intro c d g n
 refine aB (wp_seq (aA ?_))
 have p := hc
 obtain ⟨q, z, A, B, rfl, D, E, F, rfl⟩ := p
 refine rn n 4 Ag.nil.put.put.put [] [(9, I y.now), (11, I y.seq)] [qb 1 rfl 0, qb 1 rfl 1] aD fun f13 t => (sg (dD (vs := [(0, I y.now), (1, I y.seq)]) (cs := [I y.now, I y.seq, .slice none 0 0, .slice none 0 0]) (bR (t.at 9) (bR (t.at 11) dJ)) aD (sg (aQ cI n ?_)))); intro G a b d
 refine sgn (aK aD rfl rfl (aC rfl (aC rfl (aC rfl (aC rfl bE)))) d bH rfl ?_); intro g n
 refine aB (wp_seq (wp_seq (aA (rn n 4 t.put.put [] [(14, q), (15, I (y.shelf.length : Int)), (16, I 0)] [qb 2 rfl 2, ql E] aD fun a b => (aB (wp_block ?_))))))
 have p := n.row_nil (α := (List Entry)) 124
 refine bF (fun (m : Nat) (f : Nat → Value) (W : World) => ∃ (k : Nat) (H : Value) (J : List Nat), k ≤ y.shelf.length ∧ m = y.shelf.length - k ∧ Ag [(1, pt_ s), (2, pt_ c), (3, pt_ G), (14, q), (15, I (y.shelf.length : Int)), (16, I (k : Int))] f ∧ St w W ([Res.row (α := (List Entry)) 124 H (y.shelf.take k) J, Res.bx G [I y.now, I y.seq, H, .slice none 0 0] 34, Res.bx c [I 0, I 0, .slice none 0 0, .slice none 0 0] 34, Res.bx s [I y.now, I y.seq, q, z] 34])) (y.shelf.length - 0) ?_ ?_
 ·exact ⟨0, (.slice none 0 0), [], Nat.zero_le _, rfl, (b.to aD), p⟩
 intro t a K d
 obtain ⟨k, H, J, g, rfl, L, M⟩ := d
 refine wp_seq (aA (sg (bU (L.at 16) (L.at 15) (aB (wp_seq (aP rfl (fun n => ?_) (fun n => ?_)))))))
 ·refine wp_skip (wp_seq (wp_block (wp_seq (aA ?_))))
  have N : k < y.shelf.length := aE
  have O := idx E (i := k) N
  obtain ⟨t, a, b, d, P, R, g, p⟩ := O
  have S := g
  obtain ⟨A, rfl, B⟩ := S
  refine rn M 3 L.put [] [(5, A)] [qx P, qr R 0] aD fun n T => (aB ?_)
  have hyk := qH y k aE
  refine cK 5 [(some 3, some 4, .of (ι := Value) [23] (fun U => [U]) (fun U => Res.row (α := Entry) 131 U (y.shelf[k]'N) [])), (some 4, none, .of (ι := Nat × Value) [23, 24] (fun ⟨X, U⟩ => [U, .slice (some ⟨X, 0, none⟩) 1 1]) (fun ⟨X, U⟩ => Res.bx X [U] 124)), (some 4, none, .of (ι := Value) [23] (fun U => [U]) (fun U => Res.row (α := Entry) 131 U (y.shelf[k]'N) []))] [(true, .is (.pointer (some ⟨G, 0 + 2, none⟩))), (true, .is (H)), (true, .is (A)), (false, .ex (fun (U : Value) => U)), (false, .ex (fun (X : Nat) => .slice (some ⟨X, 0, none⟩) 1 1))] mix aD aD aD aD (rs0 := []) rfl M (Below.refl _ _) ⟨(fq_ eC (T.at 3)), (fun f W hst hbl hd hf => aW eF rfl (hd 0 20 rfl rfl) (hst.get 1 rfl) (i := 2) rfl rfl brq), (mq_ (T.at 5)), ?_, ?_, trivial⟩ ?_
  ·intro f W ru oth hu hst hbl hd hf
   have Y : ru = [] := hu
   subst Y
   try simp only [cap_, cL] at hst
   refine (bC func174 rfl (hd 2 22 rfl rfl) ((iL W (B.below hst.below) aE).mono ?_)); rintro _ t ⟨U, rfl, a⟩; refine ⟨_, rfl, ?_⟩
   have b := St.call hst a
   exact ⟨⟨U, rfl⟩, ⟨_, ⟨_, _, rfl, ⟨U, (ce rfl rfl), rfl⟩, rfl⟩, b⟩, (hbl.trans (Below.mono a.below hbl.size))⟩
  ·intro f W ru oth hu hst hbl hd hf
   obtain ⟨_, _, rfl, ⟨U, t, rfl⟩, Y⟩ := hu
   have Y : _ = [] := Y
   subst Y
   have d : f 23 = U := congrArg (fun l => l.getD 0 undef) t
   try simp only [cap_, cL] at hst
   refine (aU (cs := [U]) (e := 124) (bR (v := U) d dJ) (bG mO _ _ (Sl.cells (bX (hst.get 0 rfl))) rfl aZ) hst ?_); intro X a b g
   exact ⟨⟨X, rfl⟩, ⟨_, ⟨_, _, rfl, ⟨(X, U), (ce d (ce rfl rfl)), rfl⟩, _, _, rfl, ⟨U, (ce d rfl), rfl⟩, rfl⟩, g⟩, (hbl.trans (Below.mono b hbl.size))⟩
  intro t n rs_ hAL_ Z p a0 b0
  obtain ⟨_, _, rfl, ⟨⟨X, U⟩, a, rfl⟩, _, _, rfl, ⟨v41z60, A, rfl⟩, Y⟩ := hAL_
  have Y : _ = [] := Y
  subst Y
  have c0 : t 23 = U := congrArg (fun l => l.getD 0 undef) a
  have e0 : t 24 = .slice (some ⟨X, 0, none⟩) 1 1 := congrArg (fun l => l.getD 1 undef) a
  have f0 : t 23 = v41z60 := congrArg (fun l => l.getD 0 undef) A
  obtain rfl : U = v41z60 := by have h_ := c0.symm.trans f0; first | exact h_ | (simp at h_; first | exact h_ | exact h_.1 | exact h_.2 | exact h_.1.1)
  try simp only [cap_, cL] at Z
  have a := Z.f1
  have O := a.shut
  obtain ⟨t, b⟩ := O
  have d := b.cs1
  refine sg (fT mO (a0 1 21 aZ rfl) e0 d.f1.f2 (by rw [length_take]; unfold maxLen; omega) (by rw [length_take]; omega) ?_); intro g n p
  refine sg (aN eC ((b0 3 rfl).trans (T.at 3)) (sgn (aO (v := g) aD rfl rfl (Sl.cells (bX (p.f1.get 1 rfl))) (Sl.one (bX (p.f1.get 1 rfl))) p.f1 bH rfl ?_))); intro a b
  refine aB (aA (sg (bO ((b0 16 rfl).trans (T.at 16)) rfl dL (sg (aH (v := I ((k : Int) + 1)) rfl (aB ?_))))))
  exact ⟨_, y.shelf.length - (k + 1), aE, rfl, k + 1, g, J ++ t, aE, rfl, (Ag.cons ((b0 1 rfl).trans (T.at 1)) (Ag.cons ((b0 2 rfl).trans (T.at 2)) (Ag.cons ((b0 3 rfl).trans (T.at 3)) (Ag.cons ((b0 14 rfl).trans (T.at 14)) (Ag.cons ((b0 15 rfl).trans (T.at 15)) (Ag.cons rfl Ag.nil)))))), (by rw [← zJ _ _ aE]; exact b.f3.f3.f2.f3)⟩
 refine wp_exit (wp_seq (wp_seq (aA (rn M 4 L.put [] [(29, z), (30, I (y.runs.length : Int)), (31, I 0)] [qb 3 rfl 3, ql F] aD fun t a => (aB (wp_block ?_))))))
 have hke : k = y.shelf.length := by omega
 rw [hke, take_length] at M
 have d := M.row_nil (α := Run) 123
 refine bF (fun (m : Nat) (f : Nat → Value) (W : World) => ∃ (j : Nat) (g0 : Value) (h0 : List Nat), j ≤ y.runs.length ∧ m = y.runs.length - j ∧ Ag [(2, pt_ c), (3, pt_ G), (29, z), (30, I (y.runs.length : Int)), (31, I (j : Int))] f ∧ St w W ([Res.row (α := Run) 123 g0 (y.runs.take j) h0, Res.row (α := (List Entry)) 124 H y.shelf J, Res.bx G [I y.now, I y.seq, H, g0] 34, Res.bx c [I 0, I 0, .slice none 0 0, .slice none 0 0] 34, Res.bx s [I y.now, I y.seq, q, z] 34])) (y.runs.length - 0) ?_ ?_
 ·exact ⟨0, (.slice none 0 0), [], Nat.zero_le _, rfl, (a.to aD), d⟩
 intro t b g n
 obtain ⟨j, g0, h0, p, rfl, j0, k0⟩ := n
 refine wp_seq (aA (sg (bU (j0.at 31) (j0.at 30) (aB (wp_seq (aP rfl (fun A => ?_) (fun A => ?_)))))))
 ·refine wp_skip (wp_seq (wp_block (wp_seq (aA ?_))))
  have a : j < y.runs.length := aE
  have O := idx F (i := j) a
  obtain ⟨t, b, d, g, n, p, B, D⟩ := O
  refine sg (aT dS (j0.at 29) n (j0.at 31) rfl (sg (cY bP rfl rfl p k0.below (Shape.len B) (sg (aQ fN k0 ?_))))); intro A E K L
  refine sgn (aJ (cs := d) bP B rfl rfl L rfl ?_); intro t b
  refine aB ?_
  have hyk := lY (y := y) (k := j) aE
  refine cK 5 [(some 3, some 4, .of (ι := List Value × List Nat) [38] (fun ⟨l0, m0⟩ => [.agg l0.toArray]) (fun ⟨l0, m0⟩ => Res.own (α := Run) (.agg l0.toArray) (y.runs[j]'a) m0)), (some 4, none, .of (ι := Nat × List Value) [38, 39] (fun ⟨n0, l0⟩ => [.agg l0.toArray, .slice (some ⟨n0, 0, none⟩) 1 1]) (fun ⟨n0, l0⟩ => Res.bx n0 l0 123)), (some 4, none, .of (ι := List Value × List Nat) [38] (fun ⟨l0, m0⟩ => [.agg l0.toArray]) (fun ⟨l0, m0⟩ => Res.own (α := Run) (.agg l0.toArray) (y.runs[j]'a) m0))] [(true, .is (.pointer (some ⟨G, 0 + 3, none⟩))), (true, .is (g0)), (true, .is (.agg d.toArray)), (false, .ex (fun (l0 : List Value) => .agg l0.toArray)), (false, .ex (fun (n0 : Nat) => .slice (some ⟨n0, 0, none⟩) 1 1))] mix aD aD aD aD (rs0 := []) rfl b (Below.refl _ _) ⟨(fq_ dG (j0.at 3)), (fun f W hst hbl hd hf => aW fR rfl (hd 0 35 rfl rfl) (hst.get 3 rfl) (i := 3) rfl rfl brq), (fun f W hst hbl hd hf => aV bP rfl ((hf 7 rfl).trans (show _ = (pt_ A : Value) from rfl)) (hst.get 0 rfl) (Shape.len B) brq), ?_, ?_, trivial⟩ ?_
  ·intro f W ru oth hu hst hbl hd hf
   have Y : ru = [] := hu
   subst Y
   try simp only [cap_, cL] at hst
   refine (bC func175 rfl (hd 2 37 rfl rfl) ((aI9 W (aR B hst.below) aE).mono ?_)); rintro _ s ⟨l0, m0, rfl, t⟩; refine ⟨_, rfl, ?_⟩
   have a := St.call hst t
   exact ⟨⟨l0, rfl⟩, ⟨_, ⟨_, _, rfl, ⟨(l0, m0), (ce rfl rfl), rfl⟩, rfl⟩, a⟩, (hbl.trans (Below.mono t.below hbl.size))⟩
  ·intro f W ru oth hu hst hbl hd hf
   obtain ⟨_, _, rfl, ⟨⟨l0, m0⟩, s, rfl⟩, Y⟩ := hu
   have Y : _ = [] := Y
   subst Y
   have b : f 38 = .agg l0.toArray := congrArg (fun l => l.getD 0 undef) s
   try simp only [cap_, cL] at hst
   refine (aU (cs := l0) (e := 123) (bR (v := .agg l0.toArray) b dJ) (bG iK _ _ rfl (Shape.len (bB (hst.get 0 rfl) rfl)) aZ) hst ?_); intro n0 t a c
   exact ⟨⟨n0, rfl⟩, ⟨_, ⟨_, _, rfl, ⟨(n0, l0), (ce b (ce rfl rfl)), rfl⟩, _, _, rfl, ⟨(l0, m0), (ce b rfl), rfl⟩, rfl⟩, c⟩, (hbl.trans (Below.mono a hbl.size))⟩
  intro s d rs_ hAL_ o0 g p0 q0
  obtain ⟨_, _, rfl, ⟨⟨n0, l0⟩, t, rfl⟩, _, _, rfl, ⟨⟨cs107z126, m0⟩, n, rfl⟩, Y⟩ := hAL_
  have Y : _ = [] := Y
  subst Y
  have s0 : s 38 = .agg l0.toArray := congrArg (fun l => l.getD 0 undef) t
  have t0 : s 39 = .slice (some ⟨n0, 0, none⟩) 1 1 := congrArg (fun l => l.getD 1 undef) t
  have v0 : s 38 = .agg cs107z126.toArray := congrArg (fun l => l.getD 0 undef) n
  obtain rfl : l0 = cs107z126 := by have h_ := s0.symm.trans v0; first | exact h_ | (simp at h_; first | exact h_ | exact h_.1 | exact h_.2 | exact h_.1.1)
  try simp only [cap_, cL] at o0
  have t := o0.f1
  have s := t.cs rfl
  refine sg (fT iK (p0 1 36 aZ rfl) t0 s.f1.f3 (by rw [length_take]; unfold maxLen; omega) (by rw [length_take]; omega) ?_); intro a b c
  refine sg (aN dG ((q0 3 rfl).trans (j0.at 3)) (sgn (aO (v := a) aD rfl rfl (Sl.cells (bX (c.f3.get 1 rfl))) (Sl.one (bX (c.f3.get 1 rfl))) c.f3 bH rfl ?_))); intro s t
  refine aB (aA (sg (bO ((q0 31 rfl).trans (j0.at 31)) rfl dL (sg (aH (v := I ((j : Int) + 1)) rfl (aB ?_))))))
  exact ⟨_, y.runs.length - (j + 1), aE, rfl, j + 1, a, h0 ++ m0, aE, rfl, (Ag.cons ((q0 2 rfl).trans (j0.at 2)) (Ag.cons ((q0 3 rfl).trans (j0.at 3)) (Ag.cons ((q0 29 rfl).trans (j0.at 29)) (Ag.cons ((q0 30 rfl).trans (j0.at 30)) (Ag.cons rfl Ag.nil))))), (by rw [← aE9 _ _ aE]; exact t.f5.f5.f2.f5.f4.d5)⟩
 refine wp_exit (wp_seq (aA (sg (aS (cs := [I y.now, I y.seq, H, g0]) aL rfl (j0.at 3) (k0.get 2 rfl) rfl rfl (sgn (aK aD (j0.at 2) rfl (aC rfl (aC rfl (aC (Sl.one (bX (k0.f3.get 2 rfl))) (aC (Sl.one (bX (k0.f3.get 1 rfl))) bE)))) k0.f3 bH rfl ?_)))))); intro s t
 refine aB (wr (eT aL rfl results108 (j0.at 2) (t.get 0 rfl) rfl ?_))
 have hje : j = y.runs.length := by omega
 rw [hje, take_length] at t
 have a := t.f2
 have O := a.shut
 obtain ⟨b, c⟩ := O
 exact ⟨_, _, _, _, rfl, c.f2.f1.fst2⟩
theorem iQ {y : Yard} (hc : Shape.C w cs y fp) (hw : y.wt ≤ 1048576) :
  Calls prog 108 #[.agg cs.toArray] w (rO_ y w) := by
 have hok_ : y.ok := by obtain ⟨s, t, a, b, rfl, hok, c, d, rfl⟩ := hc; exact hok
 refine (yI w hc hw).mono ?_
 rintro _ w' ⟨vs, vr, fs, fe, rfl, st⟩
 obtain ⟨fr, g⟩ := st.f1.shut
 have j := cH (x := y) g.f1 hok_
 exact ⟨_, _, rfl, j.only 0 rfl⟩

theorem yH {y : Yard} (hc : Shape.C w cs y fp) (hw : y.wt ≤ 1048576) :
  Calls prog 71 #[.agg cs.toArray] w fun e w' => ∃ (vs vr : Value) (fs fe : List Nat), e = .returned (.agg #[I y.now, I y.seq, vs, vr]) ∧ St w w' [Res.own vs y.shelf fs, Res.row (α := Run) 123 vr y.runs fe] := by
 have hys : y.shelf.length + y.runs.length ≤ y.wt := by unfold Yard.wt wtL; omega
 refine cN func71 rfl ntmps71 aZ (wp_seq (aA (sg (aI (cs := cs) rfl (St.start w) ?_)))); intro s t a b
 refine sg (aQ cI b ?_); intro c d g n
 refine aB (wp_seq (aA ?_))
 have p := hc
 obtain ⟨q, z, A, B, rfl, D, E, F, rfl⟩ := p
 refine rn n 4 Ag.nil.put.put.put [] [(7, I y.now), (9, I y.seq)] [qb 1 rfl 0, qb 1 rfl 1] aD fun f13 t => (sg (dD (vs := [(0, I y.now), (1, I y.seq)]) (cs := [I y.now, I y.seq, .slice none 0 0, .slice none 0 0]) (bR (t.at 7) (bR (t.at 9) dJ)) aD (sg (aQ cI n ?_)))); intro G a b d
 refine sgn (aK aD rfl rfl (aC rfl (aC rfl (aC rfl (aC rfl bE)))) d bH rfl ?_); intro g n
 refine aB (wp_seq (wp_seq (aA (sg (aG (aB (wp_block ?_)))))))
 have a := n.row_nil (α := (List Entry)) 124
 refine bF (fun (m : Nat) (f : Nat → Value) (W : World) => ∃ (k : Nat) (H : Value) (J : List Nat), k ≤ y.shelf.length ∧ m = y.shelf.length - k ∧ Ag [(1, pt_ s), (2, pt_ c), (3, pt_ G), (4, I (k : Int))] f ∧ St w W ([Res.row (α := (List Entry)) 124 H (y.shelf.take k) J, Res.bx G [I y.now, I y.seq, H, .slice none 0 0] 34, Res.bx c [I 0, I 0, .slice none 0 0, .slice none 0 0] 34, Res.bx s [I y.now, I y.seq, q, z] 34])) (y.shelf.length - 0) ?_ ?_
 ·exact ⟨0, (.slice none 0 0), [], Nat.zero_le _, rfl, (t.put.put.put.to aD), a⟩
 intro b d g n
 obtain ⟨k, H, J, p, rfl, A, K⟩ := n
 refine wp_seq (wp_seq (aA (rn K 5 A [] [(15, .bool (decide ((k : Int) < (y.shelf.length : Int))))] [qb 3 rfl 2, ql E, .o] aD fun B L => (aB (aP (L.at 15) (fun t => ?_) (fun t => ?_))))))
 ·refine wp_skip (wp_seq (wp_block ?_))
  have M : k < y.shelf.length := aE
  have N := idx E (i := k) M
  obtain ⟨O, P, a, b, R, S, d, g⟩ := N
  have T := d
  obtain ⟨n, rfl, U⟩ := T
  have hyk := qH y k aE
  refine cK 10 [(some 2, some 8, .of (ι := Nat) [20] (fun X => [(.slice (some ⟨X, 0, none⟩) 0 0)]) (fun X => Res.row (α := Entry) 131 (.slice (some ⟨X, 0, none⟩) 0 0) [] [])), (some 8, some 9, .of (ι := Value) [26] (fun Y => [Y]) (fun Y => Res.row (α := Entry) 131 Y ([] ++ (y.shelf[k]'M)) [])), (some 9, none, .of (ι := Nat × Value) [26, 27] (fun ⟨Z, Y⟩ => [Y, .slice (some ⟨Z, 0, none⟩) 1 1]) (fun ⟨Z, Y⟩ => Res.bx Z [Y] 124)), (some 9, none, .of (ι := Value) [26] (fun Y => [Y]) (fun Y => Res.row (α := Entry) 131 Y ([] ++ (y.shelf[k]'M)) []))] [(true, .is (.pointer (some ⟨G, 0 + 2, none⟩))), (true, .is (H)), (false, .ex (fun (X : Nat) => (.slice (some ⟨X, 0, none⟩) 0 0))), (true, .is (.pointer (some ⟨s, 0 + 2, none⟩))), (true, .is (q)), (true, .is (I (k : Int))), (true, .is (.pointer (some ⟨O, P, none⟩))), (true, .is (n)), (false, .ex (fun (Y : Value) => Y)), (false, .ex (fun (Z : Nat) => .slice (some ⟨Z, 0, none⟩) 1 1))] mix aD aD aD aD (rs0 := []) rfl K K.below ⟨(fq_ eC (L.at 3)), (fun f W hst hbl hd hf => aW eF rfl (hd 0 18 rfl rfl) (hst.get 1 rfl) (i := 2) rfl rfl brq), ?_, (fq_ eC (L.at 1)), (fun f W hst hbl hd hf => aW eF rfl (hd 3 21 rfl rfl) (hst.get 3 rfl) (i := 2) rfl rfl brq), (mq_ (L.at 4)), (fun f W hst hbl hd hf => aT eO (hd 4 22 rfl rfl) R (hd 5 23 rfl rfl) rfl brq), (fun f W hst hbl hd hf => dP jD rfl (hd 6 24 rfl rfl) S hst.below (i := 0) rfl rfl brq), ?_, ?_, trivial⟩ ?_
  ·intro f W ru oth hu hst hbl hd hf
   have a0 : ru = [] := hu
   subst a0
   try simp only [cap_, cL] at hst
   refine (aU (cs := []) (e := 131) dJ (bT cG _) hst ?_); intro X t a b
   have b := b.row_empty (α := Entry)
   exact ⟨⟨X, rfl⟩, ⟨_, ⟨_, _, rfl, ⟨X, (ce rfl rfl), rfl⟩, rfl⟩, b⟩, b.below⟩
  ·intro f W ru oth hu hst hbl hd hf
   obtain ⟨_, _, rfl, ⟨X, d, rfl⟩, a0⟩ := hu
   have a0 : _ = [] := a0
   subst a0
   have t : f 20 = (.slice (some ⟨X, 0, none⟩) 0 0) := congrArg (fun l => l.getD 0 undef) d
   try simp only [cap_, cL] at hst
   refine (cX fE cG t (hd 7 25 rfl rfl) U hst.below hst (by simp only [length_nil]; unfold maxLen; omega) (by simp only [length_nil]; omega) ?_); intro Y a b
   exact ⟨⟨Y, rfl⟩, ⟨_, ⟨_, _, rfl, ⟨Y, (ce rfl rfl), rfl⟩, rfl⟩, b⟩, b.below⟩
  ·intro f W ru oth hu hst hbl hd hf
   obtain ⟨_, _, rfl, ⟨Y, t, rfl⟩, a0⟩ := hu
   have a0 : _ = [] := a0
   subst a0
   have a : f 26 = Y := congrArg (fun l => l.getD 0 undef) t
   try simp only [cap_, cL] at hst
   refine (aU (cs := [Y]) (e := 124) (bR (v := Y) a dJ) (bG mO _ _ (Sl.cells (bX (hst.get 0 rfl))) rfl aZ) hst ?_); intro Z b d g
   exact ⟨⟨Z, rfl⟩, ⟨_, ⟨_, _, rfl, ⟨(Z, Y), (ce a (ce rfl rfl)), rfl⟩, _, _, rfl, ⟨Y, (ce a rfl), rfl⟩, rfl⟩, g⟩, g.below⟩
  intro b0 t rs_ hAL_ c0 n e0 f0
  obtain ⟨_, _, rfl, ⟨⟨Z, Y⟩, b, rfl⟩, _, _, rfl, ⟨v57z73, d, rfl⟩, a0⟩ := hAL_
  have a0 : _ = [] := a0
  subst a0
  have g0 : b0 26 = Y := congrArg (fun l => l.getD 0 undef) b
  have h0 : b0 27 = .slice (some ⟨Z, 0, none⟩) 1 1 := congrArg (fun l => l.getD 1 undef) b
  have j0 : b0 26 = v57z73 := congrArg (fun l => l.getD 0 undef) d
  obtain rfl : Y = v57z73 := by have h_ := g0.symm.trans j0; first | exact h_ | (simp at h_; first | exact h_ | exact h_.1 | exact h_.2 | exact h_.1.1)
  try simp only [cap_, cL] at c0
  have t := c0.f1
  have N := t.shut
  obtain ⟨a, b⟩ := N
  have d := b.cs1
  refine sg (fT mO (e0 1 19 aZ rfl) h0 d.f1.f2 (by rw [length_take]; unfold maxLen; omega) (by rw [length_take]; omega) ?_); intro g n p
  refine sg (aN eC ((f0 3 rfl).trans (L.at 3)) (sgn (aO (v := g) aD rfl rfl (Sl.cells (bX (p.f1.get 1 rfl))) (Sl.one (bX (p.f1.get 1 rfl))) p.f1 bH rfl ?_))); intro t b
  refine aB (aA (rn b 3 (Ag.cons (show b0 1 = pt_ s from ((f0 1 rfl).trans (L.at 1))) (Ag.cons (show b0 2 = pt_ c from ((f0 2 rfl).trans (L.at 2))) (Ag.cons (show b0 3 = pt_ G from ((f0 3 rfl).trans (L.at 3))) (Ag.cons (show b0 4 = I (k : Int) from ((f0 4 rfl).trans (L.at 4))) Ag.nil)))).put.put [4] [(4, I ((k : Int) + 1))] [qad (k : Int) 1] aD fun t d => (aB ?_)))
  exact ⟨_, y.shelf.length - (k + 1), aE, rfl, k + 1, g, J ++ a, aE, rfl, (d.to aD), (by rw [← zJ _ _ aE]; exact b.f3.f3.f2.f3)⟩
 refine wp_exit (wp_seq (wp_seq (aA (sg (aG (aB (wp_block ?_)))))))
 have hke : k = y.shelf.length := by omega
 rw [hke, take_length] at K
 have t := K.row_nil (α := Run) 123
 refine bF (fun (m : Nat) (f : Nat → Value) (W : World) => ∃ (j : Nat) (k0 : Value) (l0 : List Nat), j ≤ y.runs.length ∧ m = y.runs.length - j ∧ Ag [(1, pt_ s), (2, pt_ c), (3, pt_ G), (5, I (j : Int))] f ∧ St w W ([Res.row (α := Run) 123 k0 (y.runs.take j) l0, Res.row (α := (List Entry)) 124 H y.shelf J, Res.bx G [I y.now, I y.seq, H, k0] 34, Res.bx c [I 0, I 0, .slice none 0 0, .slice none 0 0] 34, Res.bx s [I y.now, I y.seq, q, z] 34])) (y.runs.length - 0) ?_ ?_
 ·exact ⟨0, (.slice none 0 0), [], Nat.zero_le _, rfl, (L.put.to aD), t⟩
 intro a b d g
 obtain ⟨j, k0, l0, n, rfl, p, m0⟩ := g
 refine wp_seq (wp_seq (aA (rn m0 5 p [] [(34, .bool (decide ((j : Int) < (y.runs.length : Int))))] [qb 4 rfl 3, ql F, .o] aD fun A n0 => (aB (aP (n0.at 34) (fun B => ?_) (fun B => ?_))))))
 ·refine wp_skip (wp_seq (wp_block ?_))
  have t : j < y.runs.length := aE
  have N := idx F (i := j) t
  obtain ⟨a, b, g, n, p, D, E, K⟩ := N
  have hyk := lY (y := y) (k := j) aE
  refine cK 9 [(some 7, some 8, .of (ι := List Value × List Nat) [44] (fun ⟨o0, p0⟩ => [.agg o0.toArray]) (fun ⟨o0, p0⟩ => Res.own (α := Run) (.agg o0.toArray) (y.runs[j]'t) p0)), (some 8, none, .of (ι := Nat × List Value) [44, 45] (fun ⟨q0, o0⟩ => [.agg o0.toArray, .slice (some ⟨q0, 0, none⟩) 1 1]) (fun ⟨q0, o0⟩ => Res.bx q0 o0 123)), (some 8, none, .of (ι := List Value × List Nat) [44] (fun ⟨o0, p0⟩ => [.agg o0.toArray]) (fun ⟨o0, p0⟩ => Res.own (α := Run) (.agg o0.toArray) (y.runs[j]'t) p0))] [(true, .is (.pointer (some ⟨G, 0 + 3, none⟩))), (true, .is (k0)), (true, .is (.pointer (some ⟨s, 0 + 3, none⟩))), (true, .is (z)), (true, .is (I (j : Int))), (true, .is (.pointer (some ⟨a, b, none⟩))), (true, .is (.agg g.toArray)), (false, .ex (fun (o0 : List Value) => .agg o0.toArray)), (false, .ex (fun (q0 : Nat) => .slice (some ⟨q0, 0, none⟩) 1 1))] mix aD aD aD aD (rs0 := []) rfl m0 (Below.refl _ _) ⟨(fq_ dG (n0.at 3)), (fun f W hst hbl hd hf => aW fR rfl (hd 0 37 rfl rfl) (hst.get 2 rfl) (i := 3) rfl rfl brq), (fq_ dG (n0.at 1)), (fun f W hst hbl hd hf => aW fR rfl (hd 2 39 rfl rfl) (hst.get 4 rfl) (i := 3) rfl rfl brq), (mq_ (n0.at 5)), (fun f W hst hbl hd hf => aT dS (hd 3 40 rfl rfl) p (hd 4 41 rfl rfl) rfl brq), (fun f W hst hbl hd hf => cY bP rfl (hd 5 42 rfl rfl) D hst.below (Shape.len E) brq), ?_, ?_, trivial⟩ ?_
  ·intro f W ru oth hu hst hbl hd hf
   have a0 : ru = [] := hu
   subst a0
   try simp only [cap_, cL] at hst
   refine (bC func136 rfl (hd 6 43 rfl rfl) ((pW W (aR E hst.below) aE).mono ?_)); rintro _ t ⟨o0, p0, rfl, a⟩; refine ⟨_, rfl, ?_⟩
   have b := St.call hst a
   exact ⟨⟨o0, rfl⟩, ⟨_, ⟨_, _, rfl, ⟨(o0, p0), (ce rfl rfl), rfl⟩, rfl⟩, b⟩, (hbl.trans (Below.mono a.below hbl.size))⟩
  ·intro f W ru oth hu hst hbl hd hf
   obtain ⟨_, _, rfl, ⟨⟨o0, p0⟩, t, rfl⟩, a0⟩ := hu
   have a0 : _ = [] := a0
   subst a0
   have d : f 44 = .agg o0.toArray := congrArg (fun l => l.getD 0 undef) t
   try simp only [cap_, cL] at hst
   refine (aU (cs := o0) (e := 123) (bR (v := .agg o0.toArray) d dJ) (bG iK _ _ rfl (Shape.len (bB (hst.get 0 rfl) rfl)) aZ) hst ?_); intro q0 a b g
   exact ⟨⟨q0, rfl⟩, ⟨_, ⟨_, _, rfl, ⟨(q0, o0), (ce d (ce rfl rfl)), rfl⟩, _, _, rfl, ⟨(o0, p0), (ce d rfl), rfl⟩, rfl⟩, g⟩, (hbl.trans (Below.mono b hbl.size))⟩
  intro s0 t rs_ hAL_ t0 n v0 w0
  obtain ⟨_, _, rfl, ⟨⟨q0, o0⟩, a, rfl⟩, _, _, rfl, ⟨⟨cs111z130, p0⟩, p, rfl⟩, a0⟩ := hAL_
  have a0 : _ = [] := a0
  subst a0
  have x0 : s0 44 = .agg o0.toArray := congrArg (fun l => l.getD 0 undef) a
  have y0 : s0 45 = .slice (some ⟨q0, 0, none⟩) 1 1 := congrArg (fun l => l.getD 1 undef) a
  have z0 : s0 44 = .agg cs111z130.toArray := congrArg (fun l => l.getD 0 undef) p
  obtain rfl : o0 = cs111z130 := by have h_ := x0.symm.trans z0; first | exact h_ | (simp at h_; first | exact h_ | exact h_.1 | exact h_.2 | exact h_.1.1)
  try simp only [cap_, cL] at t0
  have t := t0.f1
  have a := t.cs rfl
  refine sg (fT iK (v0 1 38 aZ rfl) y0 a.f1.f2 (by rw [length_take]; unfold maxLen; omega) (by rw [length_take]; omega) ?_); intro b d g
  refine sg (aN dG ((w0 3 rfl).trans (n0.at 3)) (sgn (aO (v := b) aD rfl rfl (Sl.cells (bX (g.f2.get 1 rfl))) (Sl.one (bX (g.f2.get 1 rfl))) g.f2 bH rfl ?_))); intro t a
  refine aB (aA (rn a 3 (Ag.cons (show s0 1 = pt_ s from ((w0 1 rfl).trans (n0.at 1))) (Ag.cons (show s0 2 = pt_ c from ((w0 2 rfl).trans (n0.at 2))) (Ag.cons (show s0 3 = pt_ G from ((w0 3 rfl).trans (n0.at 3))) (Ag.cons (show s0 5 = I (j : Int) from ((w0 5 rfl).trans (n0.at 5))) Ag.nil)))).put.put [5] [(5, I ((j : Int) + 1))] [qad (j : Int) 1] aD fun s t => (aB ?_)))
  exact ⟨_, y.runs.length - (j + 1), aE, rfl, j + 1, b, l0 ++ p0, aE, rfl, (t.to aD), (by rw [← aE9 _ _ aE]; exact a.f4.f4.f2.f4.f4)⟩
 refine wp_exit (wp_seq (aA (sg (aS (cs := [I y.now, I y.seq, H, k0]) aL rfl (n0.at 3) (m0.get 2 rfl) rfl rfl (sgn (aK aD (n0.at 2) rfl (aC rfl (aC rfl (aC (Sl.one (bX (m0.f3.get 2 rfl))) (aC (Sl.one (bX (m0.f3.get 1 rfl))) bE)))) m0.f3 bH rfl ?_)))))); intro s t
 refine aB (wr (eT aL rfl results71 (n0.at 2) (t.get 0 rfl) rfl ?_))
 have hje : j = y.runs.length := by omega
 rw [hje, take_length] at t
 have a := t.f2
 have N := a.shut
 obtain ⟨b, c⟩ := N
 exact ⟨_, _, _, _, rfl, c.f2.f1.fst2⟩
theorem hX {y : Yard} (hc : Shape.C w cs y fp) (hw : y.wt ≤ 1048576) :
  Calls prog 71 #[.agg cs.toArray] w (rO_ y w) := by
 have hok_ : y.ok := by obtain ⟨s, t, a, b, rfl, hok, c, d, rfl⟩ := hc; exact hok
 refine (yH w hc hw).mono ?_
 rintro _ w' ⟨vs, vr, fs, fe, rfl, st⟩
 obtain ⟨fr, g⟩ := st.f1.shut
 have j := cH (x := y) g.f1 hok_
 exact ⟨_, _, rfl, j.only 0 rfl⟩

noncomputable def mG (y : Yard) (p : Plan) : Bool := decide ((y.runs.length : Int) < 8) && inB p.tasks 0 12 && decide (gZ y + p.tasks ≤ 40) && decide (y.seq ≤ 999999000 - p.tasks)
theorem slots_rng (y : Yard) : 0 ≤ gZ y ∧ gZ y ≤ 2 * (y.wt : Int) := by
 have s := tV y y.runs.length
 rw [take_length] at s
 have t := Nat.le_trans (qG y y.shelf.flatten) (qO y)
 unfold gZ; omega
noncomputable def aB0 (p : Plan) (k : Nat) : Task := ⟨if (bK p k).length = 0 then 2 else 1, (bK p k).length, 0, 0⟩
noncomputable def iW (p : Plan) (k : Nat) : List Task := (List.range k).map (aB0 p)
noncomputable def dZ (id : Int) (p : Plan) : Run := ⟨id, p, 1, iW p p.tasks.toNat⟩
theorem vX {p : Plan} {k : Nat} (h : ((bK p k).length : Int) = 0) : iW p (k + 1) = iW p k ++ [⟨2, (bK p k).length, 0, 0⟩] := by
 unfold iW; rw [range_succ, map_append]; simp only [map_cons, map_nil, aB0]; rw [if_pos aE]
theorem vY {p : Plan} {k : Nat} (h : ¬ ((bK p k).length : Int) = 0) : iW p (k + 1) = iW p k ++ [⟨1, (bK p k).length, 0, 0⟩] := by
 unfold iW; rw [range_succ, map_append]; simp only [map_cons, map_nil, aB0]; rw [if_neg aE]
theorem eX (p : Plan) (k : Nat) : (iW p k).length = k := by unfold iW; rw [length_map, length_range]
def qW : Run := ⟨0, ⟨0, 0, 0, 0, []⟩, 0, []⟩
noncomputable def iM (id : Int) (p : Plan) : Bool := inB id 1 9999 && decide (bM p = 0)
noncomputable def aN6 (id : Int) (p : Plan) : Run := if iM id p = true then dZ id p else qW
theorem aC0 {id : Int} {p : Plan} (h : iM id p = false) : aN6 id p = qW := by unfold aN6; rw [h]; rfl
theorem aB9 {id : Int} {p : Plan} (h : iM id p = true) : aN6 id p = dZ id p := by unfold aN6; rw [if_pos h]
theorem nL {p : Plan} (h : bM p = 0) : 1 ≤ p.tasks ∧ p.tasks ≤ 12 ∧ p.edges.length ≤ 30 := by
 have := (lI h).1; unfold dE at this; omega
theorem BeforeE_ {p : Plan} (hc : Shape.C w cs p fp) (task : Int) (h : bM p = 0) :
  Calls prog 214 #[.agg cs.toArray, I task] w (rS_ (bK p task) w) := by
 have s := nL h
 rw [show bK p task = dK (dO p.edges task) by unfold bK; rw [if_pos h]]
 exact aN4 w hc task aE s.2.2 (lI h).2.1

theorem tq9_ {P : Prop} (h : P := by
 have hso := slots_rng y
 refine bY zq1 rfl zq2 aZ (wp_seq (aA (sg (aI (cs := cs) rfl (St.start w) ?_)))); intro b1 W2 hb3 st4
 refine sg (aI (cs := ds) rfl st4 ?_); intro b6 W7 hb8 st9
 refine sg (aG (aB (wp_seq ?_)))
 rcases nem ((y.runs.length : Int) < 8) with h15p | h15p
 ·have h15 := decide_eq_false h15p
  have hk17 := hc
  obtain ⟨v17_0, v17_1, g17_0, g17_1, rfl, hok17, h17_0, h17_1, rfl⟩ := hk17
  refine rd st9 Ag.nil.put.put.put.put.put [4] [(4, .bool false)] [qb 1 rfl 3, ql h17_1, qk h15] aD aD fun f18 W19 h18_ st20 hb21 => (wr (bA zq3 (h18_.at 4) ?_))
  exact ⟨by unfold mG; simp [h15], st20.bare⟩
 have h15 := decide_eq_true h15p
 rcases bd (inB p.tasks 0 12) with h25 | h25
 ·have h25p := cU h25
  have hk27 := hc
  obtain ⟨v27_0, v27_1, g27_0, g27_1, rfl, hok27, h27_0, h27_1, rfl⟩ := hk27
  have hk28 := hd
  obtain ⟨v28_0, g28_0, rfl, hok28, h28_0, rfl⟩ := hk28
  refine rd st9 Ag.nil.put.put.put.put.put [4] [(4, .bool false)] [qb 1 rfl 3, ql h27_1, qk h15, qb 0 rfl 3, qcb zq4 rfl h25 (fun W s b => zq5 W p.tasks 0 12)] aD aD fun f29 W30 h29_ st31 hb32 => (wr (bA zq3 (h29_.at 4) ?_))
  exact ⟨by unfold mG; simp [h15, h25], st31.bare⟩
 have h25p := inB_iff'.1 h25
 rcases nem (((gZ y) + p.tasks) ≤ 40) with h36p | h36p
 ·have h36 := decide_eq_false h36p
  have hk38 := hc
  obtain ⟨v38_0, v38_1, g38_0, g38_1, rfl, hok38, h38_0, h38_1, rfl⟩ := hk38
  have hk39 := hd
  obtain ⟨v39_0, g39_0, rfl, hok39, h39_0, rfl⟩ := hk39
  refine rd st9 Ag.nil.put.put.put.put.put [4] [(4, .bool false)] [qb 1 rfl 3, ql h38_1, qk h15, qb 0 rfl 3, qcb zq4 rfl h25 (fun W s b => zq5 W p.tasks 0 12), qb 1 rfl 0, qc zq6 rfl (fun W s b => zq7 W (aR hc s.below) aE), qb 0 rfl 3, qad (gZ y) p.tasks, qk h36] aD aD fun f40 W41 h40_ st42 hb43 => (wr (bA zq3 (h40_.at 4) ?_))
  exact ⟨by unfold mG; simp [h15, h25, h36], st42.bare⟩
 have h36 := decide_eq_true h36p
 have hk45 := hc
 obtain ⟨v45_0, v45_1, g45_0, g45_1, rfl, hok45, h45_0, h45_1, rfl⟩ := hk45
 have hk46 := hd
 obtain ⟨v46_0, g46_0, rfl, hok46, h46_0, rfl⟩ := hk46
 refine rd st9 Ag.nil.put.put.put.put.put [4] [(4, .bool (decide (y.seq ≤ (999999000 - p.tasks))))] [qb 1 rfl 3, ql h45_1, qk h15, qb 0 rfl 3, qcb zq4 rfl h25 (fun W s b => zq5 W p.tasks 0 12), qb 1 rfl 0, qc zq6 rfl (fun W s b => zq7 W (aR hc s.below) aE), qb 0 rfl 3, qad (gZ y) p.tasks, qk h36, qb 1 rfl 1, qb 0 rfl 3, qsb 999999000 p.tasks, .o] aD aD fun f47 W48 h47_ st49 hb50 => (wr (bA zq3 (h47_.at 4) ?_))
 exact ⟨by unfold mG; simp [h15, h25, h36], st49.bare⟩) : P := h
theorem RoomForI {y : Yard} (hc : Shape.C w cs y fp) {p : Plan} (hd : Shape.C w ds p gp) (hw : y.wt ≤ 1048576) :
  Calls prog 203 #[.agg cs.toArray, .agg ds.toArray] w fun e w' => e = .returned (.bool (mG y p)) ∧ St w w' [] := by have zq1 := @func203; have zq2 := @ntmps203; have zq3 := @results203; have zq4 := @func47; have zq5 := @cF; have zq6 := @func100; have zq7 := @aI3; exact tq9_
theorem RoomForS {y : Yard} (hc : Shape.C w cs y fp) {p : Plan} (hd : Shape.C w ds p gp) (hw : y.wt ≤ 1048576) :
  Calls prog 196 #[.agg cs.toArray, .agg ds.toArray] w fun e w' => e = .returned (.bool (mG y p)) ∧ St w w' [] := by have zq1 := @func196; have zq2 := @ntmps196; have zq3 := @results196; have zq4 := @func43; have zq5 := @cR; have zq6 := @func93; have zq7 := @aI2; exact tq9_
theorem RunNewI (id : Int) {p : Plan} (hc : Shape.C w cs p fp) (hid : I64 id) (hw : p.wt ≤ 1048576) :
  Calls prog 204 #[I id, .agg cs.toArray] w fun e w' => ∃ (cs' : List Value) (fp' : List Nat), e = .returned (.tuple #[.agg cs'.toArray, .bool (iM id p)]) ∧ St w w' [Res.own (.agg cs'.toArray) (aN6 id p) fp'] := by
 refine bY func204 rfl ntmps204 aZ (wp_seq (aA (sg (aI (cs := cs) rfl (St.start w) ?_)))); intro t a c d
 refine sg (aQ fN d ?_); intro g j n q
 refine sg (aG (aB (wp_seq (wp_seq (aA ?_)))))
 rcases bd (!(inB id 1 9999)) with z | z
 ·have A := inB_iff'.1 (aX z)
  refine rc q 8 Ag.nil.put.put.put.put.put [] [(16, .bool (!decide ((bM p) = 0)))] [qc func47 rfl (fun W s b => cF W id 1 9999), qk z, qw 1 rfl (Shape.len hc), qc func160 rfl (fun W s b => kR W (aR hc s.below)), .o] aD fun f15 a B c d => (aB (cQ (B.at 16) (fun j => ?_) (fun j => ?_)))
  ·have D := gL j
   refine wp_seq (aA (sg (dD (vs := []) (cs := [I 0, I 0, I 0, I 0, I 0, .slice none 0 0, I 0, .slice none 0 0]) dJ aD (sgn (aK aD (B.at 4) rfl (aC rfl (aC rfl (aC rfl (aC rfl (aC rfl (aC rfl (aC rfl (aC rfl bE)))))))) c bH rfl ?_))))); intro d n
   refine sg (aG (aB (wr (eH bP rfl results204 (B.at 4) (n.get 0 rfl) rfl rfl ?_))))
   have hfe : iM id p = false := by unfold iM; simp [(aX z), (aY D)]
   have E := St.own_nil (α := Edge) n
   have d := St.own_nil (α := Task) E
   have F := eP (x := qW) d.f1 (by simp only [dZ, qW, Run.ok, Plan.ok, I64] at *; omega)
   rw [hfe, aC0 hfe]
   exact ⟨_, _, rfl, F.only 0 rfl⟩
  have D := gM j
  refine wp_skip (wp_seq ?_)
  have hpf : bM p = 0 := by simpa using (aX D)
  have hpr := nL hpf
  refine aA (sg (aH (B.at 0) (sg (aV gU rfl (B.at 3) (c.get 1 rfl) (Shape.len hc) (sg (bC func222 rfl rfl ((aA6 a (aR hc c.below) aE).mono ?_))))))); rintro _ d ⟨j, n, rfl, E⟩; refine ⟨_, rfl, ?_⟩
  have F := St.call c E
  have G := lT F
  obtain ⟨H, J, K, L, M⟩ := G
  subst K
  refine sg (dD (vs := [(0, I id), (1, .agg #[I p.prio, I p.most, I p.wait, I p.tasks, H]), (2, I 1)]) (cs := [I id, I p.prio, I p.most, I p.wait, I p.tasks, H, I 1, .slice none 0 0]) (bR (v := I id) rfl (bR (v := .agg #[I p.prio, I p.most, I p.wait, I p.tasks, H]) rfl (bR (v := I 1) rfl dJ))) aD (sg (aQ fN M ?_))); intro N a c d
  refine sgn (aK aD rfl rfl (aC rfl (aC rfl (aC rfl (aC rfl (aC rfl (aC (Sl.one (aM (d.get 1 rfl))) (aC rfl (aC rfl bE)))))))) d bH rfl ?_); intro a c
  refine aB (wp_seq (wp_seq (aA (sg (aG (aB (wp_block ?_)))))))
  have j := c.row_nil (α := Task) 140
  refine bF (fun (m : Nat) (f : Nat → Value) (W : World) => ∃ (k : Nat) (O : Value), k ≤ p.tasks.toNat ∧ m = p.tasks.toNat - k ∧ Ag [(3, pt_ t), (4, pt_ g), (6, pt_ N), (7, I (k : Int))] f ∧ St w W ([Res.row (α := Task) 140 O (iW p k) [], Res.bx N [I id, I p.prio, I p.most, I p.wait, I p.tasks, H, I 1, O] 123, Res.own (α := List Edge) H p.edges J, Res.bx g [I 0, I 0, I 0, I 0, I 0, .slice none 0 0, I 0, .slice none 0 0] 123, Res.bx t cs 106])) (p.tasks.toNat - 0) ?_ ?_
  ·exact ⟨0, (.slice none 0 0), Nat.zero_le _, rfl, (B.put.put.put.put.put.put.to aD), j⟩
  intro a c P d
  obtain ⟨k, O, n, rfl, R, S⟩ := d
  refine wp_seq (wp_seq (aA ?_))
  have T := hc
  obtain ⟨E, F, rfl, J, K, rfl⟩ := T
  refine rn S 4 R [] [(25, .bool (decide ((k : Int) < p.tasks)))] [qb 4 rfl 3, .o] aD fun j a => (aB (aP (a.at 25) (fun c => ?_) (fun c => ?_)))
  ·refine wp_skip (wp_seq (wp_block (wp_seq ?_)))
   have hbl := jW p (k : Int)
   refine aA (sg (aS (cs := [I p.prio, I p.most, I p.wait, I p.tasks, E]) gU rfl (a.at 3) (S.get 4 rfl) rfl rfl (sg (aH (a.at 7) (sg (bN func231 rfl rfl rfl ((aA7 P (aR hc S.below) (k : Int)).mono ?_))))))); rintro _ c ⟨d, j, rfl, n⟩; refine ⟨_, rfl, ?_⟩
   have B := St.call S n
   refine sg (eY eG rfl (aM (B.get 0 rfl)) (sg (dD (vs := [(0, I 1), (1, I ((bK p (k : Int)).length : Int))]) (cs := [I 1, I ((bK p (k : Int)).length : Int), I 0, I 0]) (bR (v := I 1) rfl (bR (v := I ((bK p (k : Int)).length : Int)) rfl dJ)) aD (sg (aQ iD B ?_))))); intro c d j n
   refine sgn (aK aD rfl rfl (aC rfl (aC rfl (aC rfl (aC rfl bE)))) n bH rfl ?_); intro c d
   refine aB (wp_seq (wp_seq (aA (rn d 3 a.put.put.put.put.put.put [] [(35, .bool (decide (((bK p (k : Int)).length : Int) = 0)))] [qb 0 rfl 1, .o] aD fun j B => (aB (aP (B.at 35) (fun E => ?_) (fun E => ?_)))))))
   ·refine aA (sg (aN jE (B.at 8) (sgn (aO (v := I 2) aD rfl rfl rfl rfl d bH rfl ?_)))); intro c j
    refine aB (aA (rn j 3 B.put [] [(38, O), (39, .agg #[I 2, I ((bK p (k : Int)).length : Int), I 0, I 0])] [qb 3 rfl 7, qb 0 rfl 0] aD fun n E => (sg (aU (cs := [I 2, I ((bK p (k : Int)).length : Int), I 0, I 0]) (e := 140) (bR (E.at 39) dJ) (bG iN _ _ rfl rfl aZ) j ?_)))); intro c F J n
    refine sg (cA (ys := [(⟨2, ((bK p (k : Int)).length : Int), 0, 0⟩ : Task)]) iN (E.at 38) rfl rfl n.f3 (Elems.one1 ⟨rfl, rfl, (by simp only [Task.ok, I64]; omega)⟩) (by rw [eX]; unfold maxLen; omega) (by rw [eX]; omega) ?_); intro j c F
    refine sg (aN hH (E.at 6) (sgn (aO (v := j) aD rfl rfl (Sl.cells (bX (F.f3.get 1 rfl))) (Sl.one (bX (F.f3.get 1 rfl))) F.f3 bH rfl ?_))); intro c n
    refine aB (aA (lw E.put.put.put [(3, pt_ t), (4, pt_ g), (6, pt_ N), (7, I (k : Int))] aD fun J => (rn n 3 J [7] [(7, I ((k : Int) + 1))] [qad (k : Int) 1] aD fun K L => (aB ?_))))
    exact ⟨_, p.tasks.toNat - (k + 1), aE, rfl, k + 1, j, aE, rfl, (L.to aD), (by rw [vX aE]; exact n.f6.f6.f6.f3.f4.d5.d5)⟩
   refine wp_skip (aA (rn d 3 B [] [(38, O), (39, .agg #[I 1, I ((bK p (k : Int)).length : Int), I 0, I 0])] [qb 3 rfl 7, qb 0 rfl 0] aD fun c E => (sg (aU (cs := [I 1, I ((bK p (k : Int)).length : Int), I 0, I 0]) (e := 140) (bR (E.at 39) dJ) (bG iN _ _ rfl rfl aZ) d ?_)))); intro j n B c
   refine sg (cA (ys := [(⟨1, ((bK p (k : Int)).length : Int), 0, 0⟩ : Task)]) iN (E.at 38) rfl rfl c.f3 (Elems.one1 ⟨rfl, rfl, (by simp only [Task.ok, I64]; omega)⟩) (by rw [eX]; unfold maxLen; omega) (by rw [eX]; omega) ?_); intro d j n
   refine sg (aN hH (E.at 6) (sgn (aO (v := d) aD rfl rfl (Sl.cells (bX (n.f3.get 1 rfl))) (Sl.one (bX (n.f3.get 1 rfl))) n.f3 bH rfl ?_))); intro c j
   refine aB (aA (lw E.put.put.put [(3, pt_ t), (4, pt_ g), (6, pt_ N), (7, I (k : Int))] aD fun B => (rn j 3 B [7] [(7, I ((k : Int) + 1))] [qad (k : Int) 1] aD fun F J => (aB ?_))))
   exact ⟨_, p.tasks.toNat - (k + 1), aE, rfl, k + 1, d, aE, rfl, (J.to aD), (by rw [vY aE]; exact j.f6.f6.f6.f3.f4.d5.d5)⟩
  refine wp_exit (wp_seq (aA (sg (aS (cs := [I id, I p.prio, I p.most, I p.wait, I p.tasks, H, I 1, O]) bP rfl (a.at 6) (S.get 1 rfl) rfl rfl (sgn (aK aD (a.at 4) rfl (aC rfl (aC rfl (aC rfl (aC rfl (aC rfl (aC (Sl.one (aM (S.f3.get 3 rfl))) (aC rfl (aC (Sl.one (bX (S.f3.get 1 rfl))) bE)))))))) S.f3 bH rfl ?_)))))); intro t U
  refine sg (aG (aB (wr (eH bP rfl results204 (a.at 4) (U.get 0 rfl) rfl rfl ?_))))
  have hfe : iM id p = true := by unfold iM; simp [(aX z), (aX D)]
  have hke : k = p.tasks.toNat := by omega
  subst hke
  have G := U.f1.shut
  obtain ⟨t, c⟩ := G
  have d := eP (x := dZ id p) c.f3 (by simp only [dZ, qW, Run.ok, Plan.ok, I64] at *; omega)
  rw [hfe, aB9 hfe]
  exact ⟨_, _, rfl, d.only 0 rfl⟩
 have A := cU (aY z)
 refine rc q 8 Ag.nil.put.put.put.put.put [] [(16, .bool true)] [qc func47 rfl (fun W s b => cF W id 1 9999), qk z] aD fun t a c g j => (aB (gY (c.at 16) rfl (wp_seq (aA (sg (dD (vs := []) (cs := [I 0, I 0, I 0, I 0, I 0, .slice none 0 0, I 0, .slice none 0 0]) dJ aD (sgn (aK aD (c.at 4) rfl (aC rfl (aC rfl (aC rfl (aC rfl (aC rfl (aC rfl (aC rfl (aC rfl bE)))))))) g bH rfl ?_)))))))); intro t a
 refine sg (aG (aB (wr (eH bP rfl results204 (c.at 4) (a.get 0 rfl) rfl rfl ?_))))
 have hfe : iM id p = false := by unfold iM; simp [(aY z)]
 have d := St.own_nil (α := Edge) a
 have g := St.own_nil (α := Task) d
 have t := eP (x := qW) g.f1 (by simp only [dZ, qW, Run.ok, Plan.ok, I64] at *; omega)
 rw [hfe, aC0 hfe]
 exact ⟨_, _, rfl, t.only 0 rfl⟩
theorem RunNewS (id : Int) {p : Plan} (hc : Shape.C w cs p fp) (hid : I64 id) (hw : p.wt ≤ 1048576) :
  Calls prog 197 #[I id, .agg cs.toArray] w fun e w' => ∃ (cs' : List Value) (fp' : List Nat), e = .returned (.tuple #[.agg cs'.toArray, .bool (iM id p)]) ∧ St w w' [Res.own (.agg cs'.toArray) (aN6 id p) fp'] := by
 refine bY func197 rfl ntmps197 aZ (wp_seq (aA (sg (aI (cs := cs) rfl (St.start w) ?_)))); intro t a c d
 refine sg (aQ fN d ?_); intro g j n q
 refine sg (aG (aB (wp_seq (wp_seq (aA ?_)))))
 rcases bd (!(inB id 1 9999)) with z | z
 ·have A := inB_iff'.1 (aX z)
  refine rc q 8 Ag.nil.put.put.put.put.put [] [(16, .bool (!decide ((bM p) = 0)))] [qc func43 rfl (fun W s b => cR W id 1 9999), qk z, qw 1 rfl (Shape.len hc), qc func155 rfl (fun W s b => mQ W (aR hc s.below)), .o] aD fun f15 a B c d => (aB (cQ (B.at 16) (fun j => ?_) (fun j => ?_)))
  ·have D := gL j
   refine wp_seq (aA (sg (dD (vs := []) (cs := [I 0, I 0, I 0, I 0, I 0, .slice none 0 0, I 0, .slice none 0 0]) dJ aD (sgn (aK aD (B.at 4) rfl (aC rfl (aC rfl (aC rfl (aC rfl (aC rfl (aC rfl (aC rfl (aC rfl bE)))))))) c bH rfl ?_))))); intro d n
   refine sg (aG (aB (wr (eH bP rfl results197 (B.at 4) (n.get 0 rfl) rfl rfl ?_))))
   have hfe : iM id p = false := by unfold iM; simp [(aX z), (aY D)]
   have E := St.own_nil (α := Edge) n
   have d := St.own_nil (α := Task) E
   have F := eP (x := qW) d.f1 (by simp only [dZ, qW, Run.ok, Plan.ok, I64] at *; omega)
   rw [hfe, aC0 hfe]
   exact ⟨_, _, rfl, F.only 0 rfl⟩
  have D := gM j
  refine wp_skip (wp_seq ?_)
  have hpf : bM p = 0 := by simpa using (aX D)
  have hpr := nL hpf
  refine aA (sg (aH (B.at 0) (sg (aV gU rfl (B.at 3) (c.get 1 rfl) (Shape.len hc) (sg (bC func193 rfl rfl ((aA5 a (aR hc c.below) aE).mono ?_))))))); rintro _ d ⟨j, n, rfl, E⟩; refine ⟨_, rfl, ?_⟩
  have F := St.call c E
  have G := lT F
  obtain ⟨H, J, K, L, M⟩ := G
  subst K
  refine sg (dD (vs := [(0, I id), (1, .agg #[I p.prio, I p.most, I p.wait, I p.tasks, H]), (2, I 1)]) (cs := [I id, I p.prio, I p.most, I p.wait, I p.tasks, H, I 1, .slice none 0 0]) (bR (v := I id) rfl (bR (v := .agg #[I p.prio, I p.most, I p.wait, I p.tasks, H]) rfl (bR (v := I 1) rfl dJ))) aD (sg (aQ fN M ?_))); intro N a c d
  refine sgn (aK aD rfl rfl (aC rfl (aC rfl (aC rfl (aC rfl (aC rfl (aC (Sl.one (aM (d.get 1 rfl))) (aC rfl (aC rfl bE)))))))) d bH rfl ?_); intro a c
  refine aB (wp_seq (wp_seq (aA (sg (aG (aB (wp_block ?_)))))))
  have j := c.row_nil (α := Task) 140
  refine bF (fun (m : Nat) (f : Nat → Value) (W : World) => ∃ (k : Nat) (O : Value), k ≤ p.tasks.toNat ∧ m = p.tasks.toNat - k ∧ Ag [(3, pt_ t), (4, pt_ g), (6, pt_ N), (7, I (k : Int))] f ∧ St w W ([Res.row (α := Task) 140 O (iW p k) [], Res.bx N [I id, I p.prio, I p.most, I p.wait, I p.tasks, H, I 1, O] 123, Res.own (α := List Edge) H p.edges J, Res.bx g [I 0, I 0, I 0, I 0, I 0, .slice none 0 0, I 0, .slice none 0 0] 123, Res.bx t cs 106])) (p.tasks.toNat - 0) ?_ ?_
  ·exact ⟨0, (.slice none 0 0), Nat.zero_le _, rfl, (B.put.put.put.put.put.put.to aD), j⟩
  intro a c P d
  obtain ⟨k, O, n, rfl, R, S⟩ := d
  refine wp_seq (wp_seq (aA ?_))
  have T := hc
  obtain ⟨E, F, rfl, J, K, rfl⟩ := T
  refine rn S 4 R [] [(25, .bool (decide ((k : Int) < p.tasks)))] [qb 4 rfl 3, .o] aD fun j a => (aB (aP (a.at 25) (fun c => ?_) (fun c => ?_)))
  ·refine wp_skip (wp_seq (wp_block (wp_seq ?_)))
   have hbl := jW p (k : Int)
   refine aA (sg (aS (cs := [I p.prio, I p.most, I p.wait, I p.tasks, E]) gU rfl (a.at 3) (S.get 4 rfl) rfl rfl (sg (aH (a.at 7) (sg (bN func214 rfl rfl rfl ((BeforeE_ P (aR hc S.below) (k : Int) hpf).mono ?_))))))); rintro _ c ⟨d, j, rfl, n⟩; refine ⟨_, rfl, ?_⟩
   have B := St.call S n
   refine sg (eY eG rfl (aM (B.get 0 rfl)) (sg (dD (vs := [(0, I 2), (1, I ((bK p (k : Int)).length : Int))]) (cs := [I 2, I ((bK p (k : Int)).length : Int), I 0, I 0]) (bR (v := I 2) rfl (bR (v := I ((bK p (k : Int)).length : Int)) rfl dJ)) aD (sg (aQ iD B ?_))))); intro c d j n
   refine sgn (aK aD rfl rfl (aC rfl (aC rfl (aC rfl (aC rfl bE)))) n bH rfl ?_); intro c d
   refine aB (wp_seq (wp_seq (aA (rn d 3 a.put.put.put.put.put.put [] [(35, .bool (decide (0 < ((bK p (k : Int)).length : Int))))] [qb 0 rfl 1, .o] aD fun j B => (aB (aP (B.at 35) (fun E => ?_) (fun E => ?_)))))))
   ·refine aA (sg (aN jE (B.at 8) (sgn (aO (v := I 1) aD rfl rfl rfl rfl d bH rfl ?_)))); intro c j
    refine aB (aA (rn j 3 B.put [] [(38, O), (39, .agg #[I 1, I ((bK p (k : Int)).length : Int), I 0, I 0])] [qb 3 rfl 7, qb 0 rfl 0] aD fun n E => (sg (aU (cs := [I 1, I ((bK p (k : Int)).length : Int), I 0, I 0]) (e := 140) (bR (E.at 39) dJ) (bG iN _ _ rfl rfl aZ) j ?_)))); intro c F J n
    refine sg (cA (ys := [(⟨1, ((bK p (k : Int)).length : Int), 0, 0⟩ : Task)]) iN (E.at 38) rfl rfl n.f3 (Elems.one1 ⟨rfl, rfl, (by simp only [Task.ok, I64]; omega)⟩) (by rw [eX]; unfold maxLen; omega) (by rw [eX]; omega) ?_); intro j c F
    refine sg (aN hH (E.at 6) (sgn (aO (v := j) aD rfl rfl (Sl.cells (bX (F.f3.get 1 rfl))) (Sl.one (bX (F.f3.get 1 rfl))) F.f3 bH rfl ?_))); intro c n
    refine aB (aA (lw E.put.put.put [(3, pt_ t), (4, pt_ g), (6, pt_ N), (7, I (k : Int))] aD fun J => (rn n 3 J [7] [(7, I ((k : Int) + 1))] [qad (k : Int) 1] aD fun K L => (aB ?_))))
    exact ⟨_, p.tasks.toNat - (k + 1), aE, rfl, k + 1, j, aE, rfl, (L.to aD), (by rw [vY aE]; exact n.f6.f6.f6.f3.f4.d5.d5)⟩
   refine wp_skip (aA (rn d 3 B [] [(38, O), (39, .agg #[I 2, I ((bK p (k : Int)).length : Int), I 0, I 0])] [qb 3 rfl 7, qb 0 rfl 0] aD fun c E => (sg (aU (cs := [I 2, I ((bK p (k : Int)).length : Int), I 0, I 0]) (e := 140) (bR (E.at 39) dJ) (bG iN _ _ rfl rfl aZ) d ?_)))); intro j n B c
   refine sg (cA (ys := [(⟨2, ((bK p (k : Int)).length : Int), 0, 0⟩ : Task)]) iN (E.at 38) rfl rfl c.f3 (Elems.one1 ⟨rfl, rfl, (by simp only [Task.ok, I64]; omega)⟩) (by rw [eX]; unfold maxLen; omega) (by rw [eX]; omega) ?_); intro d j n
   refine sg (aN hH (E.at 6) (sgn (aO (v := d) aD rfl rfl (Sl.cells (bX (n.f3.get 1 rfl))) (Sl.one (bX (n.f3.get 1 rfl))) n.f3 bH rfl ?_))); intro c j
   refine aB (aA (lw E.put.put.put [(3, pt_ t), (4, pt_ g), (6, pt_ N), (7, I (k : Int))] aD fun B => (rn j 3 B [7] [(7, I ((k : Int) + 1))] [qad (k : Int) 1] aD fun F J => (aB ?_))))
   exact ⟨_, p.tasks.toNat - (k + 1), aE, rfl, k + 1, d, aE, rfl, (J.to aD), (by rw [vX aE]; exact j.f6.f6.f6.f3.f4.d5.d5)⟩
  refine wp_exit (wp_seq (aA (sg (aS (cs := [I id, I p.prio, I p.most, I p.wait, I p.tasks, H, I 1, O]) bP rfl (a.at 6) (S.get 1 rfl) rfl rfl (sgn (aK aD (a.at 4) rfl (aC rfl (aC rfl (aC rfl (aC rfl (aC rfl (aC (Sl.one (aM (S.f3.get 3 rfl))) (aC rfl (aC (Sl.one (bX (S.f3.get 1 rfl))) bE)))))))) S.f3 bH rfl ?_)))))); intro t U
  refine sg (aG (aB (wr (eH bP rfl results197 (a.at 4) (U.get 0 rfl) rfl rfl ?_))))
  have hfe : iM id p = true := by unfold iM; simp [(aX z), (aX D)]
  have hke : k = p.tasks.toNat := by omega
  subst hke
  have G := U.f1.shut
  obtain ⟨t, c⟩ := G
  have d := eP (x := dZ id p) c.f3 (by simp only [dZ, qW, Run.ok, Plan.ok, I64] at *; omega)
  rw [hfe, aB9 hfe]
  exact ⟨_, _, rfl, d.only 0 rfl⟩
 have A := cU (aY z)
 refine rc q 8 Ag.nil.put.put.put.put.put [] [(16, .bool true)] [qc func43 rfl (fun W s b => cR W id 1 9999), qk z] aD fun t a c g j => (aB (gY (c.at 16) rfl (wp_seq (aA (sg (dD (vs := []) (cs := [I 0, I 0, I 0, I 0, I 0, .slice none 0 0, I 0, .slice none 0 0]) dJ aD (sgn (aK aD (c.at 4) rfl (aC rfl (aC rfl (aC rfl (aC rfl (aC rfl (aC rfl (aC rfl (aC rfl bE)))))))) g bH rfl ?_)))))))); intro t a
 refine sg (aG (aB (wr (eH bP rfl results197 (c.at 4) (a.get 0 rfl) rfl rfl ?_))))
 have hfe : iM id p = false := by unfold iM; simp [(aY z)]
 have d := St.own_nil (α := Edge) a
 have g := St.own_nil (α := Task) d
 have t := eP (x := qW) g.f1 (by simp only [dZ, qW, Run.ok, Plan.ok, I64] at *; omega)
 rw [hfe, aC0 hfe]
 exact ⟨_, _, rfl, t.only 0 rfl⟩
section
variable {α : Type} {f : α → Int → α} {n : α → Nat}
end
section
variable {α : Type} {f : α → Int → α} {n : α → Nat}
end
theorem dW {α : Type} {xs : List α} {i : Nat} (h : i < xs.length) : ∃ y, xs[i]? = some y := ⟨_, getElem?_eq_getElem h⟩
/-! ### How many numbers the marks take -/
end Go.Proofs.YtchnllpegfbleaaGreat
