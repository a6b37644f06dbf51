/-
  Tasks that are late, time that goes on, of both.
  A run that is left, of both.
  Runs that are given up, of both.
  Slices owned, by their block, whatever their elements lead to; an append within the block; clear; elements that go over to another row. Theory alone.
  An element of an owned slice is left out.
  Runs that are forgotten, of both.
  A deed that is done, of both.
  A new crew, of both.
  What a crew's turn makes of it, and many turns; how heavy it becomes. Theory alone.
  Orders of spans: what is asked of them; the weight of a yard behind a deed. Theory alone.
  Overlaps, of the program and of the reference.
  An order of spans, of both.
  The law on OrderedBy, walked.
  What is handed to a law, taken out of the row's reading: it is data in memory, as the walks want it.
-/
import Derived.ArgAppend
import Derived.ProofKit
import Derived.OpenShut
import Derived.Test.YtchnllpegfbleaaGreatQ01
import Derived.Test.YtchnllpegfbleaaGreatQ02
import Derived.Test.YtchnllpegfbleaaGreatQ03
import Derived.Test.YtchnllpegfbleaaGreatQ04
import Derived.Test.YtchnllpegfbleaaGreatQ05
import Derived.Test.YtchnllpegfbleaaGreatQ06
namespace Go.Proofs.YtchnllpegfbleaaGreat
set_option linter.unusedSimpArgs false
set_option linter.unusedVariables false
set_option maxRecDepth 100000
set_option maxHeartbeats 2000000
open Go.RowKit Go.Proofs.Tryz List
variable (w : World) {cs ds : List Value} {fp gp : List Nat}
theorem zz_IntS : gD prog 49 [.slice none 0 0] := by unfold gD; kernel_rfl
theorem aE6 {α : Type} {xs : List α} {k : Nat} {x : α} (h : xs[k]? = some x) : xs.set k x = xs := by
 obtain ⟨hl, rfl⟩ := gsi_.1 h
 exact set_getElem_self hl
theorem RunIs.tk {r : Run} (h : RunIs r) {i : Nat} {t : Task} (ht : r.tasks[i]? = some t) : (0 ≤ t.try_ ∧ t.try_ ≤ 1000000) ∧ (0 ≤ t.until_ ∧ t.until_ ≤ 1000000000) := by
 obtain ⟨hl, rfl⟩ := gsi_.1 ht
 obtain ⟨_, _, s, a, b, _⟩ := h.task i hl hl
 have hp := (lI h.plan).1
 unfold dE at hp
 by_cases e : r.tasks[i].state = 3
 ·have := a e; omega
 have := b e; omega
theorem vM {n : Int} {t : Task} (h3 : t.state = 3) (h : t.until_ ≤ n + 1) : xH n t = true := by unfold xH; simp [h3, h]
theorem vN {n : Int} {t : Task} (h : ¬ (t.state = 3 ∧ t.until_ ≤ n + 1)) : xH n t = false := by
 unfold xH
 cases h1 : decide (t.state = 3) with
 | false => rfl
 | true => cases h2 : decide (t.until_ ≤ n + 1) with
  | false => rfl
  | true => exact absurd ⟨of_decide_eq_true h1, of_decide_eq_true h2⟩ h

theorem LateOfI {y : Yard} (hc : Shape.C w cs y fp) (hY : YardIs y) (hw : y.wt ≤ 1048576) :
  Calls prog 206 #[.agg cs.toArray] w (rS_ ((cB y).map (jL y)) w) := by
 have hyok : y.ok := by obtain ⟨s, a, b, c, rfl, hok, d, g, rfl⟩ := hc; exact hok
 have hyr := hY.runs
 have hyn := hY.now
 refine cN func206 rfl ntmps206 aZ (wp_seq (aA (sg (aI (cs := cs) rfl (St.start w) ?_)))); intro j n p q
 refine sg (aF (v := .slice none 0 0) rfl (aB (wp_seq (aA (sg (aF (v := .slice none 0 0) rfl (aB (wp_seq (wp_seq (aA ?_))))))))))
 have z := hc
 obtain ⟨A, B, s, a, rfl, b, c, d, rfl⟩ := z
 refine rn q 4 Ag.nil.put.put.put.put [] [(9, B), (10, I (y.runs.length : Int)), (11, I 0)] [qb 0 rfl 3, ql d] aD fun f12 g => (aB (wp_block ?_))
 have n := q.row_nil (α := (List Int)) 49
 refine bF (fun (m : Nat) (f : Nat → Value) (W : World) => ∃ (k : Nat) (D : Value) (E : List Nat), k ≤ y.runs.length ∧ m = y.runs.length - k ∧ Ag [(1, pt_ j), (3, D), (9, B), (10, I (y.runs.length : Int)), (11, I (k : Int))] f ∧ St w W ([Res.row (α := (List Int)) 49 D ((lC y k).map (jL y)) E, Res.bx j [I y.now, I y.seq, A, B] 34])) (y.runs.length - 0) ?_ ?_
 ·exact ⟨0, (.slice none 0 0), [], Nat.zero_le _, rfl, (g.to aD), n⟩
 intro s a b c
 obtain ⟨k, D, E, hk, rfl, F, G⟩ := c
 refine wp_seq (aA (sg (bU (F.at 11) (F.at 10) (aB (wp_seq (aP rfl (fun p => ?_) (fun p => ?_)))))))
 ·refine wp_skip (wp_seq (wp_block (wp_seq ?_)))
  have H := dW (xs := y.runs) (i := k) aE
  obtain ⟨r, hr⟩ := H
  have hsm := (hY.run k r hr).1.small
  refine aA ?_
  have s : k < y.runs.length := (gsi_.1 hr).1
  have H := eB d (i := k) hr
  obtain ⟨a, b, c, g, n, p, q, z⟩ := H
  refine sg (aT dS (F.at 9) n (F.at 11) rfl (sg (cY bP rfl rfl p G.below (Shape.len q) (sg (aQ fN G ?_))))); intro J s K L
  refine sgn (aJ (cs := c) bP q rfl rfl L rfl ?_); intro a M
  refine aB (wp_seq (aA ?_))
  have N := q
  obtain ⟨b, d, g, n, rfl, p, z, O, rfl⟩ := N
  refine rn M 4 F.put.put.put.put [] [(16, d), (17, I (r.tasks.length : Int)), (18, I 0)] [qb 0 rfl 7, ql O] aD fun s c => (aB (wp_block (bF (fun (m : Nat) (f : Nat → Value) (W : World) => ∃ (i : Nat) (P : Value) (R : List Nat), i ≤ r.tasks.length ∧ m = r.tasks.length - i ∧ Ag [(1, pt_ j), (3, P), (5, pt_ J), (9, B), (10, I (y.runs.length : Int)), (11, I (k : Int)), (16, d), (17, I (r.tasks.length : Int)), (18, I (i : Int))] f ∧ St w W ([Res.bx J [I r.id, I r.plan.prio, I r.plan.most, I r.plan.wait, I r.plan.tasks, b, I r.state, d] 123, Res.row (α := (List Int)) 49 P (kE y k r i) R, Res.bx j [I y.now, I y.seq, A, B] 34])) (r.tasks.length - 0) ?_ ?_)))
  ·exact ⟨0, D, E, Nat.zero_le _, rfl, (c.to aD), (by rw [uZ]; exact M)⟩
  intro s a b g
  obtain ⟨i, P, R, hi, rfl, S, T⟩ := g
  have hll := xF hY k r i
  refine wp_seq (aA (sg (bU (S.at 18) (S.at 17) (aB (wp_seq (aP rfl (fun d => ?_) (fun d => ?_)))))))
  ·refine wp_skip (wp_seq (wp_block (wp_seq ?_)))
   have H := dW (xs := r.tasks) (i := i) aE
   obtain ⟨t, ht⟩ := H
   have htk := (hY.run k r hr).1.tk ht
   have hid := (hY.run k r hr).1.id
   refine aA ?_
   have s : i < r.tasks.length := (gsi_.1 ht).1
   have H := eB O (i := i) ht
   obtain ⟨a, b, c, d, g, j, n, p⟩ := H
   refine rn T 3 S.put [] [(20, I (i : Int)), (22, .agg c.toArray)] [qx g, qrw j (Shape.len n)] aD fun q U => (sg (aQ iD T ?_)); intro s z A B
   refine sg (aF (U.at 20) (sgn (aJ (cs := c) iI n rfl (U.at 22) B rfl ?_))); intro a X
   refine aB (wp_seq (aA ?_))
   have Y := n
   obtain ⟨Z, rfl, b⟩ := Y
   have Z : _ = [I t.state, I t.need, I t.try_, I t.until_] := Z
   subst Z
   rcases nem (t.state = 3) with s | s
   ·have c := decide_eq_false s
    refine rn X 18 U.put.put [] [(40, .bool false)] [qb 0 rfl 0, qk c] aD fun a d => (aB (kI (d.at 40) rfl (wp_skip (aA (sg (bO (d.at 18) rfl dL (sg (aH (v := I ((i : Int) + 1)) rfl (aB ?_)))))))))
    exact ⟨_, r.tasks.length - (i + 1), aE, rfl, i + 1, P, R, aE, rfl, (d.put.put.to aD), (by rw [sW ht (vN aE)]; exact X.f3.f3.f3.d3)⟩
   have c := decide_eq_true s
   rcases nem (t.until_ ≤ y.now) with a | a
   ·have b := decide_eq_false a
    refine rn X 18 U.put.put [] [(40, .bool (decide ((t.until_ - 1) = y.now)))] [qb 0 rfl 0, qk c, qb 0 rfl 3, qb 3 rfl 0, qk b, qb 0 rfl 3, qsb t.until_ 1, qb 3 rfl 0, .o] aD fun d g => (aB (aP (g.at 40) (fun s => ?_) (fun s => ?_)))
    ·refine aA (rn X 6 g [] [(41, P), (43, I r.id), (44, I (i : Int)), (46, I t.try_)] [qb 1 rfl 0, qb 0 rfl 2] aD fun j n => (sg (aU (cs := [I r.id, I (i : Int), I t.try_]) (e := 3) (bR (n.at 43) (bR (n.at 44) (bR (n.at 46) dJ))) (eR cP _ rfl (dQ rfl (dQ rfl (dQ rfl nH)))) X ?_))); intro s d j p
     have q := St.row_lit (α := Int) (ys := [r.id, (i : Int), t.try_]) p rfl bH (Elems.ic dL (Elems.ic dL (Elems.ic dL Elems.i0)))
     refine sg (aU (cs := [(.slice (some ⟨s, 0, none⟩) 3 3)]) (e := 49) (bR (v := (.slice (some ⟨s, 0, none⟩) 3 3)) rfl dJ) (bG kH _ _ (Sl.cells (bX (q.get 0 rfl))) rfl aZ) q ?_); intro d j z p
     have H := p.f1.shut
     obtain ⟨A, B⟩ := H
     have E := B.cs1
     refine sg (fT kH (n.at 41) rfl E.f1.f4 (by unfold maxLen; omega) aE ?_); intro s J K
     refine sg (aF (v := s) rfl (aB (aA (sg (bO (n.at 18) rfl dL (sg (aH (v := I ((i : Int) + 1)) rfl (aB ?_))))))))
     exact ⟨_, r.tasks.length - (i + 1), aE, rfl, i + 1, s, R ++ A, aE, rfl, (n.put.put.put.put.put.put.to aD), (by rw [sV hr ht (vM aE aE)]; exact K.f3.f1.f3.d3)⟩
    refine wp_skip (aA (sg (bO (g.at 18) rfl dL (sg (aH (v := I ((i : Int) + 1)) rfl (aB ?_))))))
    exact ⟨_, r.tasks.length - (i + 1), aE, rfl, i + 1, P, R, aE, rfl, (g.put.put.to aD), (by rw [sW ht (vN aE)]; exact X.f3.f3.f3.d3)⟩
   have b := decide_eq_true a
   refine rn X 18 U.put.put [] [(40, .bool true)] [qb 0 rfl 0, qk c, qb 0 rfl 3, qb 3 rfl 0, qk b] aD fun s d => (aB (gY (d.at 40) rfl (aA (rn X 6 d [] [(41, P), (43, I r.id), (44, I (i : Int)), (46, I t.try_)] [qb 1 rfl 0, qb 0 rfl 2] aD fun a g => (sg (aU (cs := [I r.id, I (i : Int), I t.try_]) (e := 3) (bR (g.at 43) (bR (g.at 44) (bR (g.at 46) dJ))) (eR cP _ rfl (dQ rfl (dQ rfl (dQ rfl nH)))) X ?_)))))); intro s a b c
   have d := St.row_lit (α := Int) (ys := [r.id, (i : Int), t.try_]) c rfl bH (Elems.ic dL (Elems.ic dL (Elems.ic dL Elems.i0)))
   refine sg (aU (cs := [(.slice (some ⟨s, 0, none⟩) 3 3)]) (e := 49) (bR (v := (.slice (some ⟨s, 0, none⟩) 3 3)) rfl dJ) (bG kH _ _ (Sl.cells (bX (d.get 0 rfl))) rfl aZ) d ?_); intro a b j c
   have H := c.f1.shut
   obtain ⟨n, p⟩ := H
   have q := p.cs1
   refine sg (fT kH (g.at 41) rfl q.f1.f4 (by unfold maxLen; omega) aE ?_); intro s z A
   refine sg (aF (v := s) rfl (aB (aA (sg (bO (g.at 18) rfl dL (sg (aH (v := I ((i : Int) + 1)) rfl (aB ?_))))))))
   exact ⟨_, r.tasks.length - (i + 1), aE, rfl, i + 1, s, R ++ n, aE, rfl, (g.put.put.put.put.put.put.to aD), (by rw [sV hr ht (vM aE aE)]; exact A.f3.f1.f3.d3)⟩
  refine wp_exit (aA (sg (bO (S.at 11) rfl dL (sg (aH (v := I ((k : Int) + 1)) rfl (aB ?_))))))
  exact ⟨_, y.runs.length - (k + 1), aE, rfl, k + 1, P, R, aE, rfl, (S.put.put.put.to aD), (by rw [← xG hr (show i = r.tasks.length by omega)]; exact T.f2.f2.d2)⟩
 refine wp_exit (wp_seq (aA (sg (aH (F.at 3) (sg (aF (v := D) rfl (aB (wr (bA results206 rfl ?_)))))))))
 have hke : k = y.runs.length := by omega
 rw [hke] at G
 have H := G.shut
 obtain ⟨s, a⟩ := H
 exact ⟨_, _, rfl, a.d1⟩
theorem LateOfS {y : Yard} (hc : Shape.C w cs y fp) (hY : YardIs y) (hw : y.wt ≤ 1048576) :
  Calls prog 198 #[.agg cs.toArray] w (rS_ ((cB y).map (jL y)) w) := by
 have hyok : y.ok := by obtain ⟨s, a, b, c, rfl, hok, d, g, rfl⟩ := hc; exact hok
 have hyr := hY.runs
 have hyn := hY.now
 refine cN func198 rfl ntmps198 aZ (wp_seq (aA (sg (aI (cs := cs) rfl (St.start w) ?_)))); intro j n p q
 refine sg (aF (v := .slice none 0 0) rfl (aB (wp_seq (aA (sg (aU (cs := []) (e := 49) dJ (bT kH _) q ?_)))))); intro s a b c
 have c := c.row_empty (α := List Int)
 refine sg (aF (v := (.slice (some ⟨s, 0, none⟩) 0 0)) rfl (aB (wp_seq (wp_seq (aA (sg (aG (aB (wp_block (bF (fun (m : Nat) (f : Nat → Value) (W : World) => ∃ (k : Nat) (z : Value) (A : List Nat), k ≤ y.runs.length ∧ m = y.runs.length - k ∧ Ag [(1, pt_ j), (3, z), (4, I (k : Int))] f ∧ St w W ([Res.row (α := List Int) 49 z ((lC y k).map (jL y)) A, Res.bx j cs 34])) (y.runs.length - 0) ?_ ?_))))))))))
 ·exact ⟨0, (.slice (some ⟨s, 0, none⟩) 0 0), [], Nat.zero_le _, rfl, (Ag.nil.put.put.put.put.put.put.to aD), c⟩
 intro a b d g
 obtain ⟨k, z, A, hk, rfl, B, D⟩ := g
 refine wp_seq (wp_seq (aA ?_))
 have E := hc
 obtain ⟨F, G, n, p, rfl, q, H, J, rfl⟩ := E
 refine rn D 5 B [] [(12, .bool (decide ((k : Int) < (y.runs.length : Int))))] [qb 1 rfl 3, ql J, .o] aD fun s K => (aB (aP (K.at 12) (fun a => ?_) (fun a => ?_)))
 ·refine wp_skip (wp_seq (wp_block (wp_seq ?_)))
  have L := dW (xs := y.runs) (i := k) aE
  obtain ⟨r, hr⟩ := L
  have hsm := (hY.run k r hr).1.small
  refine aA (sg (aG (aB (wp_block (bF (fun (m : Nat) (f : Nat → Value) (W : World) => ∃ (i : Nat) (M : Value) (N : List Nat), i ≤ r.tasks.length ∧ m = r.tasks.length - i ∧ Ag [(1, pt_ j), (3, M), (4, I (k : Int)), (5, I (i : Int))] f ∧ St w W ([Res.row (α := List Int) 49 M (kE y k r i) N, Res.bx j [I y.now, I y.seq, F, G] 34])) (r.tasks.length - 0) ?_ ?_)))))
  ·exact ⟨0, z, A, Nat.zero_le _, rfl, (K.put.to aD), (by rw [uZ]; exact D)⟩
  intro s a b c
  obtain ⟨i, M, N, hi, rfl, O, P⟩ := c
  have hll := xF hY k r i
  refine wp_seq (wp_seq (aA ?_))
  have d : k < y.runs.length := (gsi_.1 hr).1
  have L := eB J (i := k) hr
  obtain ⟨R, S, s, a, T, U, b, g⟩ := L
  have X := b
  obtain ⟨c, n, p, q, rfl, A, B, E, rfl⟩ := X
  refine rn P 9 O [] [(23, .bool (decide ((i : Int) < (r.tasks.length : Int))))] [qb 1 rfl 3, qx T, qr U 7, ql E, .o] aD fun d Y => (aB (aP (Y.at 23) (fun s => ?_) (fun s => ?_)))
  ·refine wp_skip (wp_seq (wp_block (wp_seq ?_)))
   have L := dW (xs := r.tasks) (i := i) aE
   obtain ⟨t, ht⟩ := L
   have htk := (hY.run k r hr).1.tk ht
   have hid := (hY.run k r hr).1.id
   refine aA ?_
   have a : i < r.tasks.length := (gsi_.1 ht).1
   have L := eB E (i := i) ht
   obtain ⟨s, b, c, d, g, n, p, q⟩ := L
   refine rn P 9 Y [] [(34, .agg c.toArray)] [qb 1 rfl 3, qx T, qr U 7, qx g, qrw n (Shape.len p)] aD fun a Z => (sg (aQ iD P ?_)); intro a0 A B E
   refine sgn (aJ (cs := c) iI p rfl (Z.at 34) E rfl ?_); intro b0 c0
   refine aB (wp_seq (aA ?_))
   have e0 := p
   obtain ⟨f0, rfl, s⟩ := e0
   have f0 : _ = [I t.state, I t.need, I t.try_, I t.until_] := f0
   subst f0
   rcases nem (t.state = 3) with a | a
   ·have g0 := decide_eq_false a
    refine rn c0 18 Z.put [] [(52, .bool false)] [qb 0 rfl 0, qk g0] aD fun b c => (aB (kI (c.at 52) rfl (wp_skip (aA (rn c0 3 c [5] [(5, I ((i : Int) + 1))] [qad (i : Int) 1] aD fun s d => (aB ?_))))))
    exact ⟨_, r.tasks.length - (i + 1), aE, rfl, i + 1, M, N, aE, rfl, (d.to aD), (by rw [sW ht (vN aE)]; exact c0.f2.f2.d2)⟩
   have g0 := decide_eq_true a
   rcases nem (t.until_ ≤ y.now) with h0 | h0
   ·have j0 := decide_eq_false h0
    refine rn c0 18 Z.put [] [(52, .bool (decide ((t.until_ - 1) ≤ y.now)))] [qb 0 rfl 0, qk g0, qb 0 rfl 3, qb 2 rfl 0, qk j0, qb 0 rfl 3, qsb t.until_ 1, qb 2 rfl 0, .o] aD fun s k0 => (aB (aP (k0.at 52) (fun a => ?_) (fun a => ?_)))
    ·refine cK 12 [(some 10, some 11, .of (ι := Nat) [63] (fun l0 => [.slice (some ⟨l0, 0, none⟩) 3 3]) (fun l0 => Res.bx l0 [I r.id, I (i : Int), I t.try_] 3)), (some 11, none, .of (ι := Nat × Nat) [63, 64] (fun ⟨m0, l0⟩ => [.slice (some ⟨l0, 0, none⟩) 3 3, .slice (some ⟨m0, 0, none⟩) 1 1]) (fun ⟨m0, l0⟩ => Res.bx m0 [(.slice (some ⟨l0, 0, none⟩) 3 3)] 49)), (some 11, none, .of (ι := Nat) [63] (fun l0 => [.slice (some ⟨l0, 0, none⟩) 3 3]) (fun l0 => Res.row (α := Int) 3 (.slice (some ⟨l0, 0, none⟩) 3 3) ([r.id, (i : Int), t.try_]) []))] [(true, .is (M)), (true, .is (.pointer (some ⟨j, 0 + 3, none⟩))), (true, .is (G)), (true, .is (I (k : Int))), (true, .is (.pointer (some ⟨R, S, none⟩))), (true, .is (.pointer (some ⟨R, S + 0, none⟩))), (true, .is (I r.id)), (true, .is (I (i : Int))), (true, .is (.pointer (some ⟨a0, 0 + 2, none⟩))), (true, .is (I t.try_)), (false, .ex (fun (l0 : Nat) => .slice (some ⟨l0, 0, none⟩) 3 3)), (false, .ex (fun (m0 : Nat) => .slice (some ⟨m0, 0, none⟩) 1 1))] mix aD aD aD aD (rs0 := []) rfl c0 (Below.refl _ _) ⟨(mq_ (k0.at 3)), (fq_ dG (k0.at 1)), (fun f W hst hbl hd hf => aW fR rfl (hd 1 54 rfl rfl) (hst.get 2 rfl) (i := 3) rfl rfl brq), (mq_ (k0.at 4)), (fun f W hst hbl hd hf => aT dS (hd 2 55 rfl rfl) T (hd 3 56 rfl rfl) rfl brq), (fun f W hst hbl hd hf => aN pQ (hd 4 57 rfl rfl) brq), (fun f W hst hbl hd hf => dP dA rfl (hd 5 58 rfl rfl) U hst.below (i := 0) rfl rfl brq), (mq_ (k0.at 5)), (fq_ qQ (k0.at 6)), (fun f W hst hbl hd hf => aW dA rfl (hd 8 61 rfl rfl) (hst.get 0 rfl) (i := 2) rfl rfl brq), ?_, ?_, trivial⟩ ?_
     ·intro f W ru oth hu hst hbl hd hf
      have n0 : ru = [] := hu
      subst n0
      try simp only [cap_, cL] at hst
      refine (aU (cs := [I r.id, I (i : Int), I t.try_]) (e := 3) (bR (v := I r.id) (hd 6 59 rfl rfl) (bR (v := I (i : Int)) (hd 7 60 rfl rfl) (bR (v := I t.try_) (hd 9 62 rfl rfl) dJ))) (eR cP _ rfl (dQ rfl (dQ rfl (dQ rfl nH)))) hst ?_); intro l0 s a b
      exact ⟨⟨l0, rfl⟩, ⟨_, ⟨_, _, rfl, ⟨l0, (ce rfl rfl), rfl⟩, rfl⟩, b⟩, (hbl.trans (Below.mono a hbl.size))⟩
     ·intro f W ru oth hu hst hbl hd hf
      obtain ⟨_, _, rfl, ⟨l0, c, rfl⟩, n0⟩ := hu
      have n0 : _ = [] := n0
      subst n0
      have s : f 63 = .slice (some ⟨l0, 0, none⟩) 3 3 := congrArg (fun l => l.getD 0 undef) c
      try simp only [cap_, cL] at hst
      have a := St.row_lit (α := Int) (ys := [r.id, (i : Int), t.try_]) hst rfl bH (Elems.ic dL (Elems.ic dL (Elems.ic dL Elems.i0)))
      refine (aU (cs := [(.slice (some ⟨l0, 0, none⟩) 3 3)]) (e := 49) (bR (v := (.slice (some ⟨l0, 0, none⟩) 3 3)) s dJ) (bG kH _ _ (Sl.cells (bX (a.get 0 rfl))) rfl aZ) a ?_); intro m0 b c d
      exact ⟨⟨m0, rfl⟩, ⟨_, ⟨_, _, rfl, ⟨(m0, l0), (ce s (ce rfl rfl)), rfl⟩, _, _, rfl, ⟨l0, (ce s rfl), rfl⟩, rfl⟩, d⟩, (hbl.trans (Below.mono c hbl.size))⟩
     intro o0 g rs_ hAL_ p0 a q0 s0
     obtain ⟨_, _, rfl, ⟨⟨m0, l0⟩, b, rfl⟩, _, _, rfl, ⟨b66z85, n, rfl⟩, n0⟩ := hAL_
     have n0 : _ = [] := n0
     subst n0
     have t0 : o0 63 = .slice (some ⟨l0, 0, none⟩) 3 3 := congrArg (fun l => l.getD 0 undef) b
     have v0 : o0 64 = .slice (some ⟨m0, 0, none⟩) 1 1 := congrArg (fun l => l.getD 1 undef) b
     have w0 : o0 63 = .slice (some ⟨b66z85, 0, none⟩) 3 3 := congrArg (fun l => l.getD 0 undef) n
     obtain rfl : l0 = b66z85 := by have h_ := t0.symm.trans w0; first | exact h_ | (simp at h_; first | exact h_ | exact h_.1 | exact h_.2 | exact h_.1.1)
     try simp only [cap_, cL] at p0
     have s := p0.f1
     have L := s.shut
     obtain ⟨a, b⟩ := L
     have c := b.cs1
     refine sg (fT kH (q0 0 53 aZ rfl) v0 c.f1.f3 (by unfold maxLen; omega) aE ?_); intro d g n
     refine sg (aF (v := d) rfl (aB (aA (rn n 3 (Ag.cons (show o0 1 = pt_ j from ((s0 1 rfl).trans (k0.at 1))) (Ag.cons (show o0 4 = I (k : Int) from ((s0 4 rfl).trans (k0.at 4))) (Ag.cons (show o0 5 = I (i : Int) from ((s0 5 rfl).trans (k0.at 5))) Ag.nil))).put.put [5] [(5, I ((i : Int) + 1))] [qad (i : Int) 1] aD fun s b => (aB ?_)))))
     exact ⟨_, r.tasks.length - (i + 1), aE, rfl, i + 1, d, N ++ a, aE, rfl, (b.to aD), (by rw [sV hr ht (vM aE aE)]; exact n.f2.f1.d2)⟩
    refine wp_skip (aA (rn c0 3 k0 [5] [(5, I ((i : Int) + 1))] [qad (i : Int) 1] aD fun s c => (aB ?_)))
    exact ⟨_, r.tasks.length - (i + 1), aE, rfl, i + 1, M, N, aE, rfl, (c.to aD), (by rw [sW ht (vN aE)]; exact c0.f2.f2.d2)⟩
   have j0 := decide_eq_true h0
   refine rn c0 18 Z.put [] [(52, .bool true)] [qb 0 rfl 0, qk g0, qb 0 rfl 3, qb 2 rfl 0, qk j0] aD fun s x0 => (aB (gY (x0.at 52) rfl (cK 12 [(some 10, some 11, .of (ι := Nat) [63] (fun y0 => [.slice (some ⟨y0, 0, none⟩) 3 3]) (fun y0 => Res.bx y0 [I r.id, I (i : Int), I t.try_] 3)), (some 11, none, .of (ι := Nat × Nat) [63, 64] (fun ⟨z0, y0⟩ => [.slice (some ⟨y0, 0, none⟩) 3 3, .slice (some ⟨z0, 0, none⟩) 1 1]) (fun ⟨z0, y0⟩ => Res.bx z0 [(.slice (some ⟨y0, 0, none⟩) 3 3)] 49)), (some 11, none, .of (ι := Nat) [63] (fun y0 => [.slice (some ⟨y0, 0, none⟩) 3 3]) (fun y0 => Res.row (α := Int) 3 (.slice (some ⟨y0, 0, none⟩) 3 3) ([r.id, (i : Int), t.try_]) []))] [(true, .is (M)), (true, .is (.pointer (some ⟨j, 0 + 3, none⟩))), (true, .is (G)), (true, .is (I (k : Int))), (true, .is (.pointer (some ⟨R, S, none⟩))), (true, .is (.pointer (some ⟨R, S + 0, none⟩))), (true, .is (I r.id)), (true, .is (I (i : Int))), (true, .is (.pointer (some ⟨a0, 0 + 2, none⟩))), (true, .is (I t.try_)), (false, .ex (fun (y0 : Nat) => .slice (some ⟨y0, 0, none⟩) 3 3)), (false, .ex (fun (z0 : Nat) => .slice (some ⟨z0, 0, none⟩) 1 1))] mix aD aD aD aD (rs0 := []) rfl c0 (Below.refl _ _) ⟨(mq_ (x0.at 3)), (fq_ dG (x0.at 1)), (fun f W hst hbl hd hf => aW fR rfl (hd 1 54 rfl rfl) (hst.get 2 rfl) (i := 3) rfl rfl brq), (mq_ (x0.at 4)), (fun f W hst hbl hd hf => aT dS (hd 2 55 rfl rfl) T (hd 3 56 rfl rfl) rfl brq), (fun f W hst hbl hd hf => aN pQ (hd 4 57 rfl rfl) brq), (fun f W hst hbl hd hf => dP dA rfl (hd 5 58 rfl rfl) U hst.below (i := 0) rfl rfl brq), (mq_ (x0.at 5)), (fq_ qQ (x0.at 6)), (fun f W hst hbl hd hf => aW dA rfl (hd 8 61 rfl rfl) (hst.get 0 rfl) (i := 2) rfl rfl brq), ?_, ?_, trivial⟩ ?_)))
   ·intro f W ru oth hu hst hbl hd hf
    have n0 : ru = [] := hu
    subst n0
    try simp only [cap_, cL] at hst
    refine (aU (cs := [I r.id, I (i : Int), I t.try_]) (e := 3) (bR (v := I r.id) (hd 6 59 rfl rfl) (bR (v := I (i : Int)) (hd 7 60 rfl rfl) (bR (v := I t.try_) (hd 9 62 rfl rfl) dJ))) (eR cP _ rfl (dQ rfl (dQ rfl (dQ rfl nH)))) hst ?_); intro y0 s a b
    exact ⟨⟨y0, rfl⟩, ⟨_, ⟨_, _, rfl, ⟨y0, (ce rfl rfl), rfl⟩, rfl⟩, b⟩, (hbl.trans (Below.mono a hbl.size))⟩
   ·intro f W ru oth hu hst hbl hd hf
    obtain ⟨_, _, rfl, ⟨y0, c, rfl⟩, n0⟩ := hu
    have n0 : _ = [] := n0
    subst n0
    have s : f 63 = .slice (some ⟨y0, 0, none⟩) 3 3 := congrArg (fun l => l.getD 0 undef) c
    try simp only [cap_, cL] at hst
    have a := St.row_lit (α := Int) (ys := [r.id, (i : Int), t.try_]) hst rfl bH (Elems.ic dL (Elems.ic dL (Elems.ic dL Elems.i0)))
    refine (aU (cs := [(.slice (some ⟨y0, 0, none⟩) 3 3)]) (e := 49) (bR (v := (.slice (some ⟨y0, 0, none⟩) 3 3)) s dJ) (bG kH _ _ (Sl.cells (bX (a.get 0 rfl))) rfl aZ) a ?_); intro z0 b c d
    exact ⟨⟨z0, rfl⟩, ⟨_, ⟨_, _, rfl, ⟨(z0, y0), (ce s (ce rfl rfl)), rfl⟩, _, _, rfl, ⟨y0, (ce s rfl), rfl⟩, rfl⟩, d⟩, (hbl.trans (Below.mono c hbl.size))⟩
   intro A0 g rs_ hAL_ B0 a C0 D0
   obtain ⟨_, _, rfl, ⟨⟨z0, y0⟩, b, rfl⟩, _, _, rfl, ⟨b109z128, n, rfl⟩, n0⟩ := hAL_
   have n0 : _ = [] := n0
   subst n0
   have E0 : A0 63 = .slice (some ⟨y0, 0, none⟩) 3 3 := congrArg (fun l => l.getD 0 undef) b
   have F0 : A0 64 = .slice (some ⟨z0, 0, none⟩) 1 1 := congrArg (fun l => l.getD 1 undef) b
   have G0 : A0 63 = .slice (some ⟨b109z128, 0, none⟩) 3 3 := congrArg (fun l => l.getD 0 undef) n
   obtain rfl : y0 = b109z128 := by have h_ := E0.symm.trans G0; first | exact h_ | (simp at h_; first | exact h_ | exact h_.1 | exact h_.2 | exact h_.1.1)
   try simp only [cap_, cL] at B0
   have s := B0.f1
   have L := s.shut
   obtain ⟨a, b⟩ := L
   have c := b.cs1
   refine sg (fT kH (C0 0 53 aZ rfl) F0 c.f1.f3 (by unfold maxLen; omega) aE ?_); intro d g n
   refine sg (aF (v := d) rfl (aB (aA (rn n 3 (Ag.cons (show A0 1 = pt_ j from ((D0 1 rfl).trans (x0.at 1))) (Ag.cons (show A0 4 = I (k : Int) from ((D0 4 rfl).trans (x0.at 4))) (Ag.cons (show A0 5 = I (i : Int) from ((D0 5 rfl).trans (x0.at 5))) Ag.nil))).put.put [5] [(5, I ((i : Int) + 1))] [qad (i : Int) 1] aD fun s b => (aB ?_)))))
   exact ⟨_, r.tasks.length - (i + 1), aE, rfl, i + 1, d, N ++ a, aE, rfl, (b.to aD), (by rw [sV hr ht (vM aE aE)]; exact n.f2.f1.d2)⟩
  refine wp_exit (aA (rn P 3 Y [4] [(4, I ((k : Int) + 1))] [qad (k : Int) 1] aD fun s c => (aB ?_)))
  exact ⟨_, y.runs.length - (k + 1), aE, rfl, k + 1, M, N, aE, rfl, (c.to aD), (by rw [← xG hr (show i = r.tasks.length by omega)]; exact P)⟩
 refine wp_exit (wp_seq (aA (sg (aH (K.at 3) (sg (aF (v := z) rfl (aB (wr (bA results198 rfl ?_)))))))))
 have hke : k = y.runs.length := by omega
 rw [hke] at D
 have L := D.shut
 obtain ⟨s, a⟩ := L
 exact ⟨_, _, rfl, a.d1⟩
theorem TickC {w W0 : World} {ty : TypeId} {rs : List Res} {b : Nat} {pre cs post : List Value} {r : Run} {fp : List Nat} (hst : St w W0 (Res.bx b (pre ++ cs ++ post) ty :: Res.own (.agg cs.toArray) r fp :: rs)) {bt : Nat} {tt : TypeId} {vl : Value} {a c : Int} (i : Nat) {t : Task} (hB : ∀ W', St w W' rs → (Res.bx bt [vl] tt).holds W' ∧ ∃ f, Sl W' vl [a, (i : Int), c] f) (hti : r.tasks[i]? = some t) (hw : r.tasks.length ≤ 1048576) :
  Calls prog 207 #[.pointer (some ⟨b, pre.length, none⟩), pt_ bt] W0 fun e w' => ∃ (cs' : List Value) (fp' : List Nat), e = .returned (.tuple #[]) ∧ St w w' (Res.bx b (pre ++ cs' ++ post) ty :: Res.own (.agg cs'.toArray) (cS r i) fp' :: rs) := by
 have s := hB _ (St.dropn 2 hst)
 obtain ⟨d, fl, hL⟩ := s
 refine bY func207 rfl ntmps207 aZ (aA ?_)
 have g : 1 < ([a, (i : Int), c]).length := (gsi_.1 (show [a, (i : Int), c][1]? = some (i : Int) from rfl)).1
 have s := eB hL (i := 1) (show [a, (i : Int), c][1]? = some (i : Int) from rfl)
 obtain ⟨j, n, p, f2, q, z, A, B⟩ := s
 have C := A
 obtain ⟨rfl, rfl, g⟩ := C
 refine rn hst 4 Ag.nil.put.put [] [(3, .pointer (some ⟨b, pre.length, none⟩)), (6, I (i : Int))] [qn (bQ d) 0, qx q, qn z 0] aD fun f3 D => ?_
 have j := hst.f1
 refine sg (bN func112 rfl (D.at 3) (D.at 6) ((aK1 j.f1 i hti hw).mono ?_)); rintro _ s ⟨g, n, rfl, p⟩; refine ⟨_, rfl, ?_⟩
 refine aB ?_
 repeat (first | refine iO ?_ | refine jN ?_ | refine iP rfl ?_)
 refine yK results207 ?_
 exact ⟨_, _, rfl, p.f1.f1⟩
theorem TickI {y : Yard} (hc : Shape.C w cs y fp) (hw : y.wt ≤ 1048576) :
  Calls prog 148 #[.agg cs.toArray] w fun e w' => ∃ (cs' : List Value) (fp' : List Nat), e = .returned (.tuple #[.agg cs'.toArray, I (eS y).2]) ∧ St w w' [Res.own (.agg cs'.toArray) (eS y).1 fp'] := by
 have hyok : y.ok := by obtain ⟨a, c, d, g, rfl, hok, n, p, rfl⟩ := hc; exact hok
 have q : I64 y.now := hyok.1
 refine cN func148 rfl ntmps148 aZ (wp_seq (aA (sg (aI (cs := cs) rfl (St.start w) ?_)))); intro z A B D
 refine sg (aQ cI D ?_); intro E a c d
 refine sg (aG (aB (wp_seq (aA (sg (aV aL rfl rfl (d.get 1 rfl) (Shape.len hc) (sg (bC func108 rfl rfl ((iQ a (aR hc d.below) aE).mono ?_))))))))); rintro _ g ⟨F, n, rfl, p⟩; refine ⟨_, rfl, ?_⟩
 have c := St.call d p
 refine sg (aQ cI c ?_); intro G q B D
 refine sgn (aJ (cs := F) aL (bB (D.get 1 rfl) rfl) rfl rfl D rfl ?_); intro a g
 refine aB (wp_seq (wp_block (wp_seq (aA (rc g 4 Ag.nil.put.put.put.put.put.put.put [] [(9, .bool (!(dB y)))] [qw 3 rfl (Shape.len hc), qc func46 rfl (fun W s b => nE W (aR hc s.below) aE), .o] aD fun c d H J n => (aB (bZ (H.at 9) (fun K => ?_) (fun K => ?_))))))))
 ·refine wp_seq (aA (sg (aV aL rfl (H.at 4) (J.get 0 rfl) (Shape.len (bB (J.get 1 rfl) rfl)) (sgn (aJ (cs := F) aL (bB (J.f2.get 2 rfl) rfl) (H.at 2) rfl J.f2 rfl ?_))))); intro a c
  refine sg (aG (aB (wr (eH aL rfl results148 (H.at 2) (c.get 0 rfl) (Shape.len (bB (c.get 2 rfl) rfl)) rfl ?_))))
  have hfe : eS y = (y, 8) := by unfold eS; rw [if_pos (aY K)]
  rw [hfe]
  exact ⟨_, _, rfl, c.f2.d1.d1.d1⟩
 refine wp_seq ?_
 have hY := iE (aX K)
 have a := hY.runs
 have hyn := hY.now
 refine aA ?_
 have L := hc
 obtain ⟨M, N, d, g, rfl, n, p, q, rfl⟩ := L
 refine rn J 5 H [] [(14, .bool (decide (999999980 < (y.now + 1))))] [qb 3 rfl 0, qad y.now 1, .o] aD fun c O => (aB (aP (O.at 14) (fun B => ?_) (fun B => ?_)))
 ·refine wp_seq (aA (sg (aV aL rfl (O.at 4) (J.get 0 rfl) (Shape.len (bB (J.get 1 rfl) rfl)) (sgn (aJ (cs := F) aL (bB (J.f2.get 2 rfl) rfl) (O.at 2) rfl J.f2 rfl ?_))))); intro a c
  refine sg (aG (aB (wr (eH aL rfl results148 (O.at 2) (c.get 0 rfl) (Shape.len (bB (c.get 2 rfl) rfl)) rfl ?_))))
  have hfe : eS y = (y, 7) := by unfold eS; rw [if_neg (by rw [(aX K)]; decide), if_pos aE]
  rw [hfe]
  exact ⟨_, _, rfl, c.f2.d1.d1.d1⟩
 refine wp_skip (wp_seq ?_)
 have hln := nP hY y.runs.length
 have hml : ((cB y).map (jL y)).length = (cB y).length := length_map _
 have hle : (cB y).length ≤ 96 := by show (lC y y.runs.length).length ≤ 96; omega
 have P : YardIs (fH (y.now + 1) y) := hY.at ⟨by omega, by omega⟩
 refine aA ?_
 have R := eM J.f1
 obtain ⟨S, T, U, X, Y, a, Z⟩ := R
 subst Y
 refine rn Z 4 O [] [(22, I (y.now + 1)), (23, pt_ G)] [qb 2 rfl 0, qad y.now 1] aD fun c d => (sgn (aO (v := I (y.now + 1)) aD (d.at 23) (d.at 22) rfl rfl Z.f2 bH rfl ?_)); intro a g
 refine aB (wp_seq (wp_seq (aA (sg (aS (cs := [I y.now, I y.seq, M, N]) aL rfl (d.at 1) (g.get 4 rfl) rfl rfl (sg (bC func206 rfl rfl ((LateOfI a (aR hc g.below) hY hw).mono ?_)))))))); rintro _ c ⟨a0, n, rfl, p⟩; refine ⟨_, rfl, ?_⟩
 have q := St.call g p
 refine sg (eY wF rfl (aM (q.get 0 rfl)) (sg (aH (v := I 0) rfl (aB (wp_block (bF (fun (m : Nat) (f : Nat → Value) (W : World) => ∃ (j : Nat) (b0 : List Nat) (c0 : List Nat) (a : List Nat), j ≤ (cB y).length ∧ m = (cB y).length - j ∧ Ag [(2, pt_ E), (4, pt_ G), (25, a0), (26, I (((cB y).map (jL y)).length : Int)), (27, I (j : Int))] f ∧ St w W ([Res.own (α := List (List Int)) a0 ((cB y).map (jL y)) a, Res.bx G [I (dF (fH (y.now + 1) y) ((cB y).take j)).now, I (dF (fH (y.now + 1) y) ((cB y).take j)).seq, S, T] 34, Res.own (α := List (List Entry)) S (dF (fH (y.now + 1) y) ((cB y).take j)).shelf b0, Res.own (α := List Run) T (dF (fH (y.now + 1) y) ((cB y).take j)).runs c0, Res.bx E [I 0, I 0, .slice none 0 0, .slice none 0 0] 34, Res.bx z [I y.now, I y.seq, M, N] 34])) ((cB y).length - 0) ?_ ?_))))))
 ·exact ⟨0, U, X, n, Nat.zero_le _, rfl, (d.put.put.put.put.to aD), q⟩
 intro c g p B
 obtain ⟨j, b0, c0, a, hjl, rfl, e0, f0⟩ := B
 have hRIk := RI.list P (l := cB y) aC4 j
 have g0 : j ≤ 1000 := by omega
 have hwO : (dF (fH (y.now + 1) y) ((cB y).take j)).wt ≤ 1048576 := Nat.le_trans (hRIk.wt P g0) aE
 refine wp_seq (aA (sg (bU (e0.at 27) (e0.at 26) (aB (wp_seq (aP rfl (fun a => ?_) (fun a => ?_)))))))
 ·refine wp_skip (wp_seq (wp_block (wp_seq ?_)))
  have R := aG1 (y := y) (j := j) aE
  obtain ⟨k, i, r, t, hp, hr, ht, hrow⟩ := R
  have R := hRIk.holds P hr ht
  obtain ⟨h0, j0, k0, l0, m0, hhb⟩ := R
  have hix := hRIk.ix P hr
  have a := l0.small
  have R := St.lendx (α := List Int) aZ f0 (x := [r.id, (i : Int), t.try_]) hrow
  obtain ⟨n0, o0, p0, c, post92, q0, s0, t0, d, g⟩ := R
  have R := g.f1.uncs1
  obtain ⟨v0, w0, x0⟩ := R; subst w0
  refine aA (sg (aT wF (e0.at 25) t0 (e0.at 27) rfl (sg (gR aC3 rfl rfl (x0.get 1 rfl) (i := 0) rfl rfl (sg (aQ zz_IntS x0 ?_)))))); intro y0 a c d
  refine sgn (aO (v := v0) aD rfl rfl (Sl.cells (aM (d.get 1 rfl))) (Sl.one (aM (d.get 1 rfl))) d bH rfl ?_); intro g z0
  refine aB (wp_seq ?_)
  have A0 : 0 < ([r.id, (i : Int), t.try_]).length := (gsi_.1 (show [r.id, (i : Int), t.try_][0]? = some r.id from rfl)).1
  have R := eB (aM (z0.get 1 rfl)) (i := 0) (show [r.id, (i : Int), t.try_][0]? = some r.id from rfl)
  obtain ⟨a, c, d, g, B0, C0, n, p⟩ := R
  have D0 := n
  obtain ⟨rfl, rfl, q⟩ := D0
  have B : 1 < ([r.id, (i : Int), t.try_]).length := (gsi_.1 (show [r.id, (i : Int), t.try_][1]? = some (i : Int) from rfl)).1
  have R := eB (aM (z0.get 1 rfl)) (i := 1) (show [r.id, (i : Int), t.try_][1]? = some (i : Int) from rfl)
  obtain ⟨a, c, d, g, E0, F0, n, p⟩ := R
  have G0 := n
  obtain ⟨rfl, rfl, q⟩ := G0
  have B : 2 < ([r.id, (i : Int), t.try_]).length := (gsi_.1 (show [r.id, (i : Int), t.try_][2]? = some t.try_ from rfl)).1
  have R := eB (aM (z0.get 1 rfl)) (i := 2) (show [r.id, (i : Int), t.try_][2]? = some t.try_ from rfl)
  obtain ⟨a, c, d, g, H0, J0, n, p⟩ := R
  have K0 := n
  obtain ⟨rfl, rfl, q⟩ := K0
  refine rd z0 e0.put.put.put.put [] [(41, .bool (gC (dF (fH (y.now + 1) y) ((cB y).take j)) r.id (i : Int) t.try_))] [qb 4 rfl 0, qb 0 rfl 0, qx B0, qn C0 0, qb 0 rfl 0, qx E0, qn F0 0, qb 0 rfl 0, qx H0, qn J0 0, qc func109 rfl (fun W s b => aK0 W (show Shape.C _ [I (dF (fH (y.now + 1) y) ((cB y).take j)).now, I (dF (fH (y.now + 1) y) ((cB y).take j)).seq, S, T] (dF (fH (y.now + 1) y) ((cB y).take j)) _ from ⟨_, _, _, _, rfl, (hRIk.ok P g0), (aM (s.get 5 rfl)), (aM (s.get 6 rfl)), rfl⟩) r.id (i : Int) t.try_ aE)] aD aD fun a L0 M0 N0 c => (bZ (M0.at 41) (fun O0 => ?_) (fun O0 => ?_))
  ·have HH := O0
   have A0 : 0 < ([r.id, (i : Int), t.try_]).length := (gsi_.1 (show [r.id, (i : Int), t.try_][0]? = some r.id from rfl)).1
   have R := eB (aM (N0.get 1 rfl)) (i := 0) (show [r.id, (i : Int), t.try_][0]? = some r.id from rfl)
   obtain ⟨P0, Q0, a, c, R0, S0, d, g⟩ := R
   have T0 := d
   obtain ⟨rfl, rfl, n⟩ := T0
   refine cK 6 [] [(true, .is (.agg #[I (dF (fH (y.now + 1) y) ((cB y).take j)).now, I (dF (fH (y.now + 1) y) ((cB y).take j)).seq, S, T])), (true, .is (v0)), (true, .is (.pointer (some ⟨P0, Q0, none⟩))), (true, .is (I r.id)), (true, .is (I (k : Int))), (true, .is (.func (.func 207) #[] #[pt_ y0]))] mix aD aD aD aD (rs0 := []) rfl N0 (Below.refl _ _) ⟨(fun f W hst hbl hd hf => aS (cs := [I (dF (fH (y.now + 1) y) ((cB y).take j)).now, I (dF (fH (y.now + 1) y) ((cB y).take j)).seq, S, T]) aL rfl ((hf 4 rfl).trans (M0.at 4)) (hst.get 4 rfl) rfl rfl brq), (fun f W hst hbl hd hf => aW aC3 rfl ((hf 6 rfl).trans (M0.at 6)) (hst.get 0 rfl) (i := 0) rfl rfl brq), (fun f W hst hbl hd hf => aT eG (hd 1 43 rfl rfl) R0 rfl rfl brq), (fun f W hst hbl hd hf => dP dA rfl (hd 2 44 rfl rfl) S0 hbl (i := 0) rfl rfl brq), (fun f W hst hbl hd hf => bN func98 rfl (hd 0 42 rfl rfl) (hd 3 45 rfl rfl) ((nU W (show Shape.C _ [I (dF (fH (y.now + 1) y) ((cB y).take j)).now, I (dF (fH (y.now + 1) y) ((cB y).take j)).seq, S, T] (dF (fH (y.now + 1) y) ((cB y).take j)) _ from ⟨_, _, _, _, rfl, (hRIk.ok P g0), (aM (hst.get 5 rfl)), (aM (hst.get 6 rfl)), rfl⟩) r.id hwO hix).mono (by rintro e A ⟨rfl, hk⟩; exact ⟨_, rfl, hk.below, rfl⟩))), (fun f W hst hbl hd hf => gQ nZ (pJ (v := pt_ y0) ((hf 6 rfl).trans (M0.at 6)) nZ) brq), trivial⟩ ?_
   intro a c rs_ hAL_ d g n p
   have q : rs_ = [] := hAL_
   subst q
   try simp only [cap_, cL] at d
   have A := d.f6
   have B : j0.state = 3 := by simpa using hhb.symm.trans HH
   have ch_q0 := hRIk.chg P g0 (cS h0 i).id
   obtain ⟨ch_s, ch_n, ch_q⟩ := ch_q0
   have ch_r := k0
   have ch_R := l0.fails m0 B
   have ch_l : h0.tasks.length ≤ 1000 := by omega
   have ch_l2 : (cS h0 i).tasks.length ≤ 1000 := by have := ch_R.small; omega
   have ch_ok := ch_R.small.1
   refine sg (eL func110 rfl ((p 4 rfl).trans (M0.at 4)) (n 4 46 aZ rfl) (n 5 47 aZ rfl) ((vQ (y := (dF (fH (y.now + 1) y) ((cB y).take j))) (k := k) (r := h0) (r' := (cS h0 i)) (capt := [pt_ y0]) A.f6.f6 ch_r ch_l ch_l2 ch_ok ch_s ch_n ch_q func207 rfl (fun a c d g q D n F hh_ hs_ => TickC hs_ i (fun W_ h_ => ⟨(hh_ W_ h_).get 0 rfl, _, aM ((hh_ W_ h_).get 1 rfl)⟩) m0 aE)).mono ?_)); rintro _ A ⟨H, J, rfl, L⟩; refine ⟨_, rfl, ?_⟩
   have a : St w A ([Res.bx G [I (cZ (dF (fH (y.now + 1) y) ((cB y).take j)) k h0 (cS h0 i)).now, I (cZ (dF (fH (y.now + 1) y) ((cB y).take j)) k h0 (cS h0 i)).seq, S, T] 34, Res.own (α := List (List Entry)) S (cZ (dF (fH (y.now + 1) y) ((cB y).take j)) k h0 (cS h0 i)).shelf H, Res.own (α := List Run) T (cZ (dF (fH (y.now + 1) y) ((cB y).take j)) k h0 (cS h0 i)).runs J, Res.bx y0 [v0] 49, Res.own (α := List Int) v0 ([r.id, (i : Int), t.try_]) q0, Res.bx n0 (p0 ++ [v0] ++ post92) o0, Res.rest (α := (List Int)) a0 n0 p0 post92 ((cB y).map (jL y)) j s0, Res.bx E [I 0, I 0, .slice none 0 0, .slice none 0 0] 34, Res.bx z [I y.now, I y.seq, M, N] 34]) := L
   refine aB (aA (sg (bO ((p 27 rfl).trans (M0.at 27)) rfl dL (sg (aH (v := I ((j : Int) + 1)) rfl (aB ?_))))))
   have c := a.f4.cs1
   have R := St.give (α := List Int) c.f6.f1.f6
   obtain ⟨d, g⟩ := R
   exact ⟨_, (cB y).length - (j + 1), aE, rfl, j + 1, H, J, d, aE, rfl, (Ag.cons ((p 2 rfl).trans (M0.at 2)) (Ag.cons ((p 4 rfl).trans (M0.at 4)) (Ag.cons ((p 25 rfl).trans (M0.at 25)) (Ag.cons ((p 26 rfl).trans (M0.at 26)) (Ag.cons rfl Ag.nil))))), (by have h_ := g.f6.f6.f5.f5.f5.f5.d6; rw [aE6 hrow] at h_; rw [show (dF (fH (y.now + 1) y) ((cB y).take (j + 1))) = cZ (dF (fH (y.now + 1) y) ((cB y).take j)) k h0 (cS h0 i) from (lZ hp).trans (vF k0 m0 B)]; exact h_)⟩
  refine wp_skip (aA (sg (bO (M0.at 27) rfl dL (sg (aH (v := I ((j : Int) + 1)) rfl (aB ?_))))))
  have a := N0.f1.cs1
  have R := St.give (α := List Int) a.f3.f1.f3
  obtain ⟨c, d⟩ := R
  exact ⟨_, (cB y).length - (j + 1), aE, rfl, j + 1, b0, c0, c, aE, rfl, (M0.put.put.to aD), (by have h_ := d.f6.f6.f6.f6.f6.f5.d6; rw [aE6 hrow] at h_; rw [show (dF (fH (y.now + 1) y) ((cB y).take (j + 1))) = (dF (fH (y.now + 1) y) ((cB y).take j)) from (lZ hp).trans (vG k0 m0 (by simpa using hhb.symm.trans O0))]; exact h_)⟩
 refine wp_exit (wp_seq (aA (sg (aS (cs := [I (dF (fH (y.now + 1) y) ((cB y).take j)).now, I (dF (fH (y.now + 1) y) ((cB y).take j)).seq, S, T]) aL rfl (e0.at 4) (f0.get 1 rfl) rfl rfl (sgn (aK aD (e0.at 2) rfl (aC rfl (aC rfl (aC (Sl.one (aM (f0.f4.get 3 rfl))) (aC (Sl.one (aM (f0.f4.get 4 rfl))) bE)))) f0.f4 bH rfl ?_)))))); intro a c
 refine sg (aG (aB (wr (eH aL rfl results148 (e0.at 2) (c.get 0 rfl) rfl rfl ?_))))
 have hje : j = (cB y).length := by omega
 have hokT := hRIk.ok P g0
 have hTe : (dF (fH (y.now + 1) y) ((cB y).take j)) = aD3 y := by rw [hje, take_length]; rfl
 rw [hTe] at c hokT
 have a := c.f4
 have d := cH (x := (aD3 y)) a.f4 hokT
 have hfe : eS y = (aD3 y, 0) := by unfold eS; rw [if_neg (by rw [(aX K)]; decide), if_neg aE]
 rw [hTe]
 rw [hfe]
 exact ⟨_, _, rfl, d.d1.d1.d1.d1⟩
theorem TickS {y : Yard} (hc : Shape.C w cs y fp) (hw : y.wt ≤ 1048576) :
  Calls prog 140 #[.agg cs.toArray] w fun e w' => ∃ (cs' : List Value) (fp' : List Nat), e = .returned (.tuple #[.agg cs'.toArray, I (eS y).2]) ∧ St w w' [Res.own (.agg cs'.toArray) (eS y).1 fp'] := by
 have hyok : y.ok := by obtain ⟨a, c, d, g, rfl, hok, n, p, rfl⟩ := hc; exact hok
 have q : I64 y.now := hyok.1
 refine cN func140 rfl ntmps140 aZ (wp_seq (aA (sg (aI (cs := cs) rfl (St.start w) ?_)))); intro z A B D
 refine sg (aQ cI D ?_); intro E a c d
 refine sg (aG (aB (wp_seq (aA (sg (aV aL rfl rfl (d.get 1 rfl) (Shape.len hc) (sg (bC func71 rfl rfl ((hX a (aR hc d.below) aE).mono ?_))))))))); rintro _ g ⟨F, n, rfl, p⟩; refine ⟨_, rfl, ?_⟩
 have c := St.call d p
 refine sg (aQ cI c ?_); intro G q A B
 refine sgn (aJ (cs := F) aL (bB (B.get 1 rfl) rfl) rfl rfl B rfl ?_); intro a g
 refine aB (wp_seq (wp_seq (aA (rc g 3 Ag.nil.put.put.put.put.put.put.put [] [(12, .bool (!(dB y)))] [qw 3 rfl (Shape.len hc), qc func42 rfl (fun W s b => nD W (aR hc s.below) aE), .o] aD fun c H J K d => (aB (bZ (J.at 12) (fun L => ?_) (fun L => ?_)))))))
 ·refine wp_seq (aA (sg (aV aL rfl (J.at 4) (K.get 0 rfl) (Shape.len (bB (K.get 1 rfl) rfl)) (sgn (aJ (cs := F) aL (bB (K.f2.get 2 rfl) rfl) (J.at 2) rfl K.f2 rfl ?_))))); intro a c
  refine sg (aG (aB (wr (eH aL rfl results140 (J.at 2) (c.get 0 rfl) (Shape.len (bB (c.get 2 rfl) rfl)) rfl ?_))))
  have hfe : eS y = (y, 8) := by unfold eS; rw [if_pos (aY L)]
  rw [hfe]
  exact ⟨_, _, rfl, c.f2.d1.d1.d1⟩
 refine wp_skip (wp_seq (wp_seq ?_))
 have hY := iE (aX L)
 have a := hY.runs
 have hyn := hY.now
 refine aA ?_
 have M := hc
 obtain ⟨N, O, d, g, rfl, n, p, q, rfl⟩ := M
 refine rn K 4 J [] [(17, .bool (decide (999999980 < (y.now + 1))))] [qb 3 rfl 0, qad y.now 1, .o] aD fun c P => (aB (aP (P.at 17) (fun A => ?_) (fun A => ?_)))
 ·refine wp_seq (aA (sg (aV aL rfl (P.at 4) (K.get 0 rfl) (Shape.len (bB (K.get 1 rfl) rfl)) (sgn (aJ (cs := F) aL (bB (K.f2.get 2 rfl) rfl) (P.at 2) rfl K.f2 rfl ?_))))); intro a c
  refine sg (aG (aB (wr (eH aL rfl results140 (P.at 2) (c.get 0 rfl) (Shape.len (bB (c.get 2 rfl) rfl)) rfl ?_))))
  have hfe : eS y = (y, 7) := by unfold eS; rw [if_neg (by rw [(aX L)]; decide), if_pos aE]
  rw [hfe]
  exact ⟨_, _, rfl, c.f2.d1.d1.d1⟩
 refine wp_skip (wp_seq ?_)
 have hln := nP hY y.runs.length
 have hml : ((cB y).map (jL y)).length = (cB y).length := length_map _
 have hle : (cB y).length ≤ 96 := by show (lC y y.runs.length).length ≤ 96; omega
 refine aA (sg (aS (cs := [I y.now, I y.seq, N, O]) aL rfl (P.at 1) (K.get 3 rfl) rfl rfl (sg (bC func198 rfl rfl ((LateOfS H (aR hc K.below) hY hw).mono ?_))))); rintro _ a ⟨R, S, rfl, c⟩; refine ⟨_, rfl, ?_⟩
 have d := St.call K c
 refine sg (aF (v := R) rfl (aB (wp_seq (wp_seq (aA (sg (aG (aB (wp_block ?_)))))))))
 have T := eM d.f2
 obtain ⟨U, X, Y, Z, a0, a, b0⟩ := T
 subst a0
 refine bF (fun (m : Nat) (f : Nat → Value) (W : World) => ∃ (j : Nat) (c0 : List Nat) (e0 : List Nat), j ≤ (cB y).length ∧ m = (cB y).length - j ∧ Ag [(2, pt_ E), (4, pt_ G), (5, R), (6, I (j : Int))] f ∧ St w W ([Res.own (α := List (List Entry)) U (dF y ((cB y).take j)).shelf c0, Res.own (α := List Run) X (dF y ((cB y).take j)).runs e0, Res.own (α := List (List Int)) R ((cB y).map (jL y)) S, Res.bx G [I (dF y ((cB y).take j)).now, I (dF y ((cB y).take j)).seq, U, X] 34, Res.bx E [I 0, I 0, .slice none 0 0, .slice none 0 0] 34, Res.bx z [I y.now, I y.seq, N, O] 34])) ((cB y).length - 0) ?_ ?_
 ·exact ⟨0, Y, Z, Nat.zero_le _, rfl, (P.put.put.put.put.to aD), b0⟩
 intro a c d g
 obtain ⟨j, c0, e0, hjl, rfl, n, f0⟩ := g
 have hRIk := RI.list hY aC4 j
 have g0 : j ≤ 1000 := by omega
 have hwO : (dF y ((cB y).take j)).wt ≤ 1048576 := Nat.le_trans (hRIk.wt hY g0) aE
 refine wp_seq (wp_seq (aA (rn f0 4 n [] [(24, .bool (decide ((j : Int) < (((cB y).map (jL y)).length : Int))))] [ql (aM (f0.get 2 rfl)), .o] aD fun a h0 => (aB (aP (h0.at 24) (fun c => ?_) (fun c => ?_))))))
 ·refine wp_skip (wp_seq (wp_block (wp_seq ?_)))
  have T := aG1 (y := y) (j := j) aE
  obtain ⟨k, i, r, t, hp, hr, ht, hrow⟩ := T
  have T := hRIk.holds hY hr ht
  obtain ⟨j0, k0, l0, m0, n0, hhb⟩ := T
  have hix := hRIk.ix hY hr
  have a := m0.small
  have c : j0.wt ≤ 1048576 := by have := m0.wt; omega
  have o0 : j < ((cB y).map (jL y)).length := (gsi_.1 hrow).1
  have T := eB (aM (f0.get 2 rfl)) (i := j) hrow
  obtain ⟨d, g, n, p, p0, q0, q, A⟩ := T
  have s0 := q
  obtain ⟨a, rfl, c⟩ := s0
  have B : 0 < ([r.id, (i : Int), t.try_]).length := (gsi_.1 (show [r.id, (i : Int), t.try_][0]? = some r.id from rfl)).1
  have T := eB c (i := 0) (show [r.id, (i : Int), t.try_][0]? = some r.id from rfl)
  obtain ⟨d, g, n, p, t0, v0, a, q⟩ := T
  have w0 := a
  obtain ⟨rfl, rfl, A⟩ := w0
  refine rd f0 h0 [] [(7, I (k : Int))] [qb 3 rfl 0, qx p0, qn q0 0, qx t0, qn v0 0, qc func90 rfl (fun W s b => nT W (show Shape.C _ [I (dF y ((cB y).take j)).now, I (dF y ((cB y).take j)).seq, U, X] (dF y ((cB y).take j)) _ from ⟨_, _, _, _, rfl, (hRIk.ok hY g0), (aM (s.get 0 rfl)), (aM (s.get 1 rfl)), rfl⟩) r.id hwO hix)] aD aD fun a c x0 y0 d => (wp_seq ?_)
  have z0 : k < (dF y ((cB y).take j)).runs.length := (gsi_.1 l0).1
  have T := eB (aM (y0.get 1 rfl)) (i := k) l0
  obtain ⟨g, n, p, q, A0, B0, A, B⟩ := T
  have C0 := A
  obtain ⟨a, c, D, F, rfl, d, H, D0, rfl⟩ := C0
  have o0 : j < ((cB y).map (jL y)).length := (gsi_.1 hrow).1
  have T := eB (aM (y0.get 2 rfl)) (i := j) hrow
  obtain ⟨g, n, p, q, E0, F0, B, J⟩ := T
  have G0 := B
  obtain ⟨a, rfl, c⟩ := G0
  have H0 : 1 < ([r.id, (i : Int), t.try_]).length := (gsi_.1 (show [r.id, (i : Int), t.try_][1]? = some (i : Int) from rfl)).1
  have T := eB c (i := 1) (show [r.id, (i : Int), t.try_][1]? = some (i : Int) from rfl)
  obtain ⟨d, g, n, a, J0, K0, p, q⟩ := T
  have L0 := p
  obtain ⟨rfl, rfl, A⟩ := L0
  have B : i < j0.tasks.length := (gsi_.1 n0).1
  have T := eB D0 (i := i) n0
  obtain ⟨c, D, F, H, M0, N0, J, K⟩ := T
  have O0 := J
  obtain ⟨P0, rfl, a⟩ := O0
  have P0 : _ = [I k0.state, I k0.need, I k0.try_, I k0.until_] := P0
  subst P0
  refine rd y0 x0 [] [(50, .bool (decide (k0.state = 3)))] [qb 3 rfl 3, qx A0, qn B0 7, qx E0, qn F0 0, qx J0, qn K0 0, qx M0, qn N0 0, .o] aD aD fun a Q0 R0 S0 c => (aP (R0.at 50) (fun T0 => ?_) (fun T0 => ?_))
  ·have U0 := T0
   have z0 : k < (dF y ((cB y).take j)).runs.length := (gsi_.1 l0).1
   have T := eB (aM (S0.get 1 rfl)) (i := k) l0
   obtain ⟨V0, W0, X0, d, Y0, Z0, a1, a⟩ := T
   have o0 : j < ((cB y).map (jL y)).length := (gsi_.1 hrow).1
   have T := eB (aM (S0.get 2 rfl)) (i := j) hrow
   obtain ⟨b1, c1, c, g, e1, g1, n, p⟩ := T
   have h1 := n
   obtain ⟨j1, rfl, d⟩ := h1
   have H0 : 1 < ([r.id, (i : Int), t.try_]).length := (gsi_.1 (show [r.id, (i : Int), t.try_][1]? = some (i : Int) from rfl)).1
   have T := eB d (i := 1) (show [r.id, (i : Int), t.try_][1]? = some (i : Int) from rfl)
   obtain ⟨k1, l1, a, c, m1, n1, g, n⟩ := T
   have o1 := g
   obtain ⟨rfl, rfl, p⟩ := o1
   refine cK 14 [(some 13, none, .of (ι := List Value × List Nat) [64] (fun ⟨a, c⟩ => [.agg a.toArray]) (fun ⟨a, c⟩ => Res.own (α := Run) (.agg a.toArray) (dY j0 (i : Int)) c))] [(true, .is (.agg #[I (dF y ((cB y).take j)).now, I (dF y ((cB y).take j)).seq, U, X])), (true, .is (I (k : Int))), (true, .is (.pointer (some ⟨G, 0 + 3, none⟩))), (true, .is (X)), (true, .is (I (k : Int))), (true, .is (.pointer (some ⟨V0, W0, none⟩))), (true, .is (.agg X0.toArray)), (true, .is (R)), (true, .is (I (j : Int))), (true, .is (.pointer (some ⟨b1, c1, none⟩))), (true, .is (j1)), (true, .is (.pointer (some ⟨k1, l1, none⟩))), (true, .is (I (i : Int))), (false, .ex (fun (a : List Value) => .agg a.toArray))] mix aD aD aD aD (rs0 := []) rfl S0 (Below.refl _ _) ⟨(fun f W hst hbl hd hf => aS (cs := [I (dF y ((cB y).take j)).now, I (dF y ((cB y).take j)).seq, U, X]) aL rfl ((hf 4 rfl).trans (R0.at 4)) (hst.get 3 rfl) rfl rfl brq), (mq_ (R0.at 7)), (fq_ dG (R0.at 4)), (fun f W hst hbl hd hf => aW fR rfl (hd 2 53 rfl rfl) (hst.get 3 rfl) (i := 3) rfl rfl brq), (mq_ (R0.at 7)), (fun f W hst hbl hd hf => aT dS (hd 3 54 rfl rfl) Y0 (hd 4 55 rfl rfl) rfl brq), (fun f W hst hbl hd hf => cY bP rfl (hd 5 56 rfl rfl) Z0 hbl (Shape.len a1) brq), (mq_ (R0.at 5)), (mq_ (R0.at 6)), (fun f W hst hbl hd hf => aT wF (hd 7 58 rfl rfl) e1 (hd 8 59 rfl rfl) rfl brq), (fun f W hst hbl hd hf => dP aC3 rfl (hd 9 60 rfl rfl) g1 hbl (i := 0) rfl rfl brq), (fun f W hst hbl hd hf => aT eG (hd 10 61 rfl rfl) m1 rfl rfl brq), (fun f W hst hbl hd hf => dP dA rfl (hd 11 62 rfl rfl) n1 hbl (i := 0) rfl rfl brq), ?_, trivial⟩ ?_
   ·intro f W ru oth hu hst hbl hd hf
    have d : ru = [] := hu
    subst d
    try simp only [cap_, cL] at hst
    refine (bN func105 rfl (hd 6 57 rfl rfl) (hd 12 63 rfl rfl) ((uL W (aR a1 hbl) (i : Int) aE).mono ?_)); rintro _ g ⟨a, c, rfl, n⟩; refine ⟨_, rfl, ?_⟩
    have p := St.call hst n
    exact ⟨⟨a, rfl⟩, ⟨_, ⟨_, _, rfl, ⟨(a, c), (ce rfl rfl), rfl⟩, rfl⟩, p⟩, (hbl.trans (Below.mono n.below hbl.size))⟩
   intro q z rs_ hAL_ A B D g
   obtain ⟨_, _, rfl, ⟨⟨a, c⟩, F, rfl⟩, d⟩ := hAL_
   have d : _ = [] := d
   subst d
   have H : q 64 = .agg a.toArray := congrArg (fun l => l.getD 0 undef) F
   try simp only [cap_, cL] at A
   have n := A.f2
   have ch_e := pG m0 n0 U0
   have ch_q0 := hRIk.chg hY g0 (dY j0 (i : Int)).id
   obtain ⟨ch_s, ch_n, ch_q⟩ := ch_q0
   have ch_r := l0
   have ch_R := m0.fails n0 U0
   have ch_l : j0.tasks.length ≤ 1000 := by omega
   have ch_l2 : (dY j0 (i : Int)).tasks.length ≤ 1000 := by rw [ch_e]; have := ch_R.small; omega
   refine sg (eL func104 rfl (D 0 51 aZ rfl) (D 1 52 aZ rfl) H ((aM8 (y := (dF y ((cB y).take j))) (k := k) (was := j0) (r := dY j0 (i : Int)) n.f2 ch_r ch_s ch_l2 ch_n ch_q).mono ?_)); rintro _ a ⟨c, d, rfl, p⟩; refine ⟨_, rfl, ?_⟩
   refine sgn (aK aD ((g 4 rfl).trans (R0.at 4)) rfl (aC rfl (aC rfl (aC (Sl.one (aM (p.f3.get 1 rfl))) (aC (Sl.one (aM (p.f3.get 2 rfl))) bE)))) p.f3 bH rfl ?_); intro a n
   refine aB (aA (rn n 3 (Ag.cons (show q 2 = pt_ E from ((g 2 rfl).trans (R0.at 2))) (Ag.cons (show q 4 = pt_ G from ((g 4 rfl).trans (R0.at 4))) (Ag.cons (show q 5 = R from ((g 5 rfl).trans (R0.at 5))) (Ag.cons (show q 6 = I (j : Int) from ((g 6 rfl).trans (R0.at 6))) Ag.nil)))).put [6] [(6, I ((j : Int) + 1))] [qad (j : Int) 1] aD fun a p => (aB ?_)))
   exact ⟨_, (cB y).length - (j + 1), aE, rfl, j + 1, c, d, aE, rfl, (p.to aD), (by rw [show (dF y ((cB y).take (j + 1))) = cZ (dF y ((cB y).take j)) k j0 (dY j0 (i : Int)) from by rw [ch_e]; exact (lZ hp).trans (vF l0 n0 U0)]; exact n.f5.f5.f2.f5.f5.f5)⟩
  refine wp_skip (aA (rn S0 3 R0 [6] [(6, I ((j : Int) + 1))] [qad (j : Int) 1] aD fun a c => (aB ?_)))
  exact ⟨_, (cB y).length - (j + 1), aE, rfl, j + 1, c0, e0, aE, rfl, (c.to aD), (by rw [show (dF y ((cB y).take (j + 1))) = (dF y ((cB y).take j)) from (lZ hp).trans (vG l0 n0 T0)]; exact S0)⟩
 refine wp_exit (wp_seq ?_)
 have hTn := hRIk.now
 refine aA (rn f0 4 h0 [] [(68, I ((dF y ((cB y).take j)).now + 1)), (69, pt_ G)] [qb 3 rfl 0, qad (dF y ((cB y).take j)).now 1] aD fun a c => (sgn (aO (v := I ((dF y ((cB y).take j)).now + 1)) aD (c.at 69) (c.at 68) rfl rfl f0.f3 bH rfl ?_))); intro d g
 refine aB (wp_seq (aA (sg (aS (cs := [I ((dF y ((cB y).take j)).now + 1), I (dF y ((cB y).take j)).seq, U, X]) aL rfl (c.at 4) (g.get 0 rfl) rfl rfl (sgn (aK aD (c.at 2) rfl (aC rfl (aC rfl (aC (Sl.one (aM (g.f4.get 2 rfl))) (aC (Sl.one (aM (g.f4.get 3 rfl))) bE)))) g.f4 bH rfl ?_)))))); intro a d
 refine sg (aG (aB (wr (eH aL rfl results140 (c.at 2) (d.get 0 rfl) rfl rfl ?_))))
 have hje : j = (cB y).length := by omega
 have hokT := hRIk.ok hY g0
 have hTe : aD3 y = fH ((dF y ((cB y).take j)).now + 1) (dF y ((cB y).take j)) := by rw [hTn, hje, take_length]; exact yN _ _ _
 have a := cH (x := (fH ((dF y ((cB y).take j)).now + 1) (dF y ((cB y).take j)))) d.f3.f3 (show I64 _ ∧ I64 _ from ⟨by show I64 ((dF y ((cB y).take j)).now + 1); unfold I64; omega, hokT.2⟩)
 have hfe : eS y = (fH ((dF y ((cB y).take j)).now + 1) (dF y ((cB y).take j)), 0) := by unfold eS; rw [if_neg (by rw [(aX L)]; decide), if_neg aE]; rw [hTe]
 rw [hfe]
 exact ⟨_, _, rfl, a.d1.d1.d1.d1⟩
noncomputable def mJ (r : Run) : Bool := gI r && decide (r.state = 1)
noncomputable def pO (r : Run) : Run := if mJ r = true then ⟨r.id, r.plan, 4, iR r.tasks (-1)⟩ else r
theorem vO {r : Run} (h : mJ r = false) : pO r = r := by unfold pO; rw [h]; rfl
theorem aL8 {r : Run} (h : mJ r = true) : pO r = ⟨r.id, r.plan, 4, iR r.tasks (-1)⟩ := by unfold pO; rw [if_pos h]
theorem RunIs.no5 {r : Run} (h : RunIs r) (h1 : r.state = 1) : ∀ u ∈ r.tasks, ¬ u.state = 5 := by
 intro u hu s
 have t := xY hu s
 have hs := h.state
 rw [h1] at hs
 unfold eN at hs
 have a := eE r.tasks 6
 repeat' split at hs
 all_goals omega
theorem leave_all {ts : List Task} (h : ∀ u ∈ ts, ¬ u.state = 5) : fP ts = iR ts (-1) := by
 apply ext_getElem?
 intro k
 unfold iR fP
 rw [getElem?_mapIdx, getElem?_map]
 cases hk : ts[k]? with
 | none => rfl
 | some u =>
  have s := h u (mem_of_getElem? hk)
  have e' : ¬ (k : Int) = -1 := by omega
  simp [iT, gK, s, e']

theorem RunLeftI {r : Run} (hc : Shape.C w cs r fp) (hw : r.wt ≤ 1048576) :
  Calls prog 208 #[.agg cs.toArray] w (rO_ (pO r) w) := by
 have t : r.plan.wt + r.tasks.length ≤ 1048576 := hw
 refine cN func208 rfl ntmps208 aZ (wp_seq (aA (sg (aI (cs := cs) rfl (St.start w) ?_)))); intro a c d g
 refine sg (aQ fN g ?_); intro j n p q
 refine aB (wp_seq (aA (sg (aV bP rfl rfl (q.get 1 rfl) (Shape.len hc) (sg (bC func175 rfl rfl ((aI9 n (aR hc q.below) aE).mono ?_))))))); rintro _ t ⟨z, a, rfl, c⟩; refine ⟨_, rfl, ?_⟩
 have d := St.call q c
 refine sg (aQ fN d ?_); intro g j p A
 refine sgn (aJ (cs := z) bP (bB (A.get 1 rfl) rfl) rfl rfl A rfl ?_); intro t B
 refine aB (wp_seq (wp_seq (aA ?_)))
 rcases bd (gI r) with D | D
 ·refine rc B 7 Ag.nil.put.put.put.put.put.put [] [(12, .bool false)] [qw 3 rfl (Shape.len hc), qcb func97 rfl D (fun W s b => yF W (aR hc s.below))] aD fun a c t d g => (aB (kI (t.at 12) rfl (wp_skip (wp_seq (aA (sg (aV bP rfl (t.at 3) (d.get 0 rfl) (Shape.len (bB (d.get 1 rfl) rfl)) (sgn (aJ (cs := z) bP (bB (d.f2.get 2 rfl) rfl) (t.at 2) rfl d.f2 rfl ?_))))))))); intro j n
  refine aB (wr (eT bP rfl results208 (t.at 2) (n.get 0 rfl) (Shape.len (bB (n.get 2 rfl) rfl)) ?_))
  have hB_ : mJ r = false := by unfold mJ; rw [D]; rfl
  rw [vO hB_]
  exact ⟨_, _, rfl, n.f2.d1.d1.d1⟩
 have E := hc
 obtain ⟨a, c, d, g, rfl, j, p, q, rfl⟩ := E
 refine rc B 7 Ag.nil.put.put.put.put.put.put [] [(12, .bool (decide (r.state = 1)))] [qb 3 rfl 0, qcb func97 rfl D (fun W s b => yF W (aR hc s.below)), qb 3 rfl 6, .o] aD fun t n F G A => (aB (aP (F.at 12) (fun H => ?_) (fun H => ?_)))
 ·have J := decide_eq_true H
  refine wp_seq (aA (sg (bN func177 rfl (F.at 3) rfl ((aP9 (pre := []) (post := []) (by simpa using G.f1.f1) (-1) aE).mono ?_)))); rintro _ a ⟨c, d, rfl, t⟩; refine ⟨_, rfl, ?_⟩
  simp only [nil_append, append_nil] at t
  refine aB (aA (sg (aN aG8 (F.at 3) ?_)))
  have g := t.f1
  have j := iZ g
  obtain ⟨K, L, n, p, M, q, N⟩ := j
  subst M
  refine sgn (aO (v := I 4) aD rfl rfl rfl rfl N.f2 bH rfl ?_); intro t a
  refine aB (wp_seq (aA (sg (aS (cs := [I (pL r (-1)).id, I (pL r (-1)).plan.prio, I (pL r (-1)).plan.most, I (pL r (-1)).plan.wait, I (pL r (-1)).plan.tasks, K, I 4, L]) bP rfl (F.at 3) (a.get 0 rfl) rfl rfl (sgn (aK aD (F.at 2) rfl (aC rfl (aC rfl (aC rfl (aC rfl (aC rfl (aC (Sl.one (aM (a.f3.get 2 rfl))) (aC rfl (aC (Sl.one (aM (a.f3.get 3 rfl))) bE)))))))) a.f3 bH rfl ?_)))))); intro t c
  refine aB (wr (eT bP rfl results208 (F.at 2) (c.get 0 rfl) rfl ?_))
  have hB_ : mJ r = true := by unfold mJ; rw [D, J]; rfl
  have d := eP (x := (⟨r.id, r.plan, 4, iR r.tasks (-1)⟩ : Run)) c.f3.f3 (by obtain ⟨_, _, _, _, _, hok, _⟩ := hc; exact ⟨hok.1, hok.2.1, by show I64 4; unfold I64; omega⟩)
  try dsimp only at d
  have t := d.d1
  rw [aL8 hB_]
  exact ⟨_, _, rfl, t.d1.d1⟩
 have J := decide_eq_false H
 refine wp_skip (wp_seq (aA (sg (aV bP rfl (F.at 3) (G.get 0 rfl) (Shape.len (bB (G.get 1 rfl) rfl)) (sgn (aJ (cs := z) bP (bB (G.f2.get 2 rfl) rfl) (F.at 2) rfl G.f2 rfl ?_)))))); intro a c
 refine aB (wr (eT bP rfl results208 (F.at 2) (c.get 0 rfl) (Shape.len (bB (c.get 2 rfl) rfl)) ?_))
 have hB_ : mJ r = false := by unfold mJ; rw [D, J]; rfl
 rw [vO hB_]
 exact ⟨_, _, rfl, c.f2.d1.d1.d1⟩
theorem RunLeftS {r : Run} (hc : Shape.C w cs r fp) (hw : r.wt ≤ 1048576) :
  Calls prog 199 #[.agg cs.toArray] w (rO_ (pO r) w) := by
 have t : r.plan.wt + r.tasks.length ≤ 1048576 := hw
 refine cN func199 rfl ntmps199 aZ (wp_seq (aA (sg (aI (cs := cs) rfl (St.start w) ?_)))); intro a c d g
 refine sg (aQ fN g ?_); intro j n p q
 refine aB (wp_seq (aA (sg (aV bP rfl rfl (q.get 1 rfl) (Shape.len hc) (sg (bC func136 rfl rfl ((pW n (aR hc q.below) aE).mono ?_))))))); rintro _ t ⟨z, a, rfl, c⟩; refine ⟨_, rfl, ?_⟩
 have d := St.call q c
 refine sg (aQ fN d ?_); intro g j p A
 refine sgn (aJ (cs := z) bP (bB (A.get 1 rfl) rfl) rfl rfl A rfl ?_); intro t B
 refine aB (wp_seq (wp_seq (aA ?_)))
 rcases bd (!(gI r)) with D | D
 ·have E := hc
  obtain ⟨a, c, d, g, rfl, j, n, p, rfl⟩ := E
  refine rc B 8 Ag.nil.put.put.put.put.put.put [] [(13, .bool (!decide (r.state = 1)))] [qb 3 rfl 0, qc func89 rfl (fun W s b => rS W (aR hc s.below)), qk D, qb 3 rfl 6, .o] aD fun t q A F G => (aB (cQ (A.at 13) (fun a => ?_) (fun a => ?_)))
  ·have c := gL a
   refine wp_seq (aA (sg (aV bP rfl (A.at 3) (F.get 0 rfl) (Shape.len (bB (F.get 1 rfl) rfl)) (sgn (aJ (cs := z) bP (bB (F.f2.get 2 rfl) rfl) (A.at 2) rfl F.f2 rfl ?_))))); intro t d
   refine aB (wr (eT bP rfl results199 (A.at 2) (d.get 0 rfl) (Shape.len (bB (d.get 2 rfl) rfl)) ?_))
   have hB_ : mJ r = false := by unfold mJ; rw [(aX D), (aY c)]; rfl
   rw [vO hB_]
   exact ⟨_, _, rfl, d.f2.d1.d1.d1⟩
  have c := gM a
  refine wp_skip (wp_seq (aA (sg (aV bP rfl (A.at 3) (F.get 0 rfl) (Shape.len (bB (F.get 1 rfl) rfl)) (sg (bN func170 rfl rfl rfl ((aP8 F.f1 4 (by simp only [I64]; omega) aE).mono ?_))))))); rintro _ t ⟨g, j, rfl, d⟩; refine ⟨_, rfl, ?_⟩
  refine sgn (aJ (cs := g) bP (bB (d.f2.get 1 rfl) rfl) (A.at 2) rfl d.f2 rfl ?_); intro a n
  refine aB (wr (eT bP rfl results199 (A.at 2) (n.get 0 rfl) (Shape.len (bB (n.get 1 rfl) rfl)) ?_))
  have hB_ : mJ r = true := by unfold mJ; rw [(aX D), (aX c)]; rfl
  rw [aL8 hB_, ← leave_all ((runIs.1 (aX D)).no5 (of_decide_eq_true (aX c)))]
  exact ⟨_, _, rfl, n.f1.d1.d1.d1⟩
 refine rc B 8 Ag.nil.put.put.put.put.put.put [] [(13, .bool true)] [qw 3 rfl (Shape.len hc), qc func89 rfl (fun W s b => rS W (aR hc s.below)), qk D] aD fun t a d g j => (aB (gY (d.at 13) rfl (wp_seq (aA (sg (aV bP rfl (d.at 3) (g.get 0 rfl) (Shape.len (bB (g.get 1 rfl) rfl)) (sgn (aJ (cs := z) bP (bB (g.f2.get 2 rfl) rfl) (d.at 2) rfl g.f2 rfl ?_)))))))); intro c n
 refine aB (wr (eT bP rfl results199 (d.at 2) (n.get 0 rfl) (Shape.len (bB (n.get 2 rfl) rfl)) ?_))
 have hB_ : mJ r = false := by unfold mJ; rw [(aY D)]; rfl
 rw [vO hB_]
 exact ⟨_, _, rfl, n.f2.d1.d1.d1⟩
theorem sN {y : Yard} {id : Int} (h : ¬ bJ y id < 0) : ∃ r, y.runs[(bJ y id).toNat]? = some r := by
 unfold bJ at h ⊢
 cases hk : eQ y id with
 | none => rw [hk] at h; simp [ixI] at h
 | some k =>
  have := sM hk
  exact ⟨_, by simp only [ixI, Int.toNat_natCast]; exact getElem?_eq_getElem this⟩
noncomputable def zX (y : Yard) (k : Nat) (r : Run) : Yard := ⟨y.now, y.seq, y.shelf, y.runs.set k (pO r)⟩
noncomputable def cO (y : Yard) (id : Int) : Yard × Int :=
 if dB y = false then (y, 8) else match y.runs[(bJ y id).toNat]? with
  | some r => if bJ y id < 0 then (y, 10) else if r.state ≠ 1 then (y, 12) else (zX y (bJ y id).toNat r, 0)
  | none => (y, 10)
theorem tJ {y : Yard} {id : Int} (h0 : dB y = true) (h : bJ y id < 0) : cO y id = (y, 10) := by
 unfold cO
 rw [if_neg (by rw [h0]; decide)]
 cases y.runs[(bJ y id).toNat]? with
 | none => rfl
 | some r => simp only; rw [if_pos h]
theorem lR {y : Yard} {id : Int} {r : Run} (h0 : dB y = true) (h : ¬ bJ y id < 0) (hr : y.runs[(bJ y id).toNat]? = some r) : cO y id = if r.state ≠ 1 then (y, 12) else (zX y (bJ y id).toNat r, 0) := by
 unfold cO
 rw [if_neg (by rw [h0]; decide), hr]
 simp only
 rw [if_neg h]

theorem CancelI {y : Yard} (hc : Shape.C w cs y fp) (id : Int) (hw : y.wt ≤ 1048576) :
  Calls prog 149 #[.agg cs.toArray, I id] w fun e w' => ∃ (cs' : List Value) (fp' : List Nat), e = .returned (.tuple #[.agg cs'.toArray, I (cO y id).2]) ∧ St w w' [Res.own (.agg cs'.toArray) (cO y id).1 fp'] := by
 have hyok : y.ok := by obtain ⟨t, a, c, d, rfl, hok, g, j, rfl⟩ := hc; exact hok
 have n : I64 y.now := hyok.1
 refine bY func149 rfl ntmps149 aZ (wp_seq (aA (sg (aI (cs := cs) rfl (St.start w) ?_)))); intro p q z A
 refine sg (aQ cI A ?_); intro B t a c
 refine sg (aG (aB (wp_seq (aA (sg (aV aL rfl rfl (c.get 1 rfl) (Shape.len hc) (sg (bC func108 rfl rfl ((iQ t (aR hc c.below) aE).mono ?_))))))))); rintro _ d ⟨D, g, rfl, j⟩; refine ⟨_, rfl, ?_⟩
 have a := St.call c j
 refine sg (aQ cI a ?_); intro E n q z
 refine sgn (aJ (cs := D) aL (bB (z.get 1 rfl) rfl) rfl rfl z rfl ?_); intro t d
 refine aB (wp_seq (aA (rc d 4 Ag.nil.put.put.put.put.put.put.put.put [] [(7, I (bJ y id))] [qw 3 rfl (Shape.len hc), qc func98 rfl (fun W s b => pV W (aR hc s.below) id aE)] aD fun a c g j n => (aB (wp_seq (wp_block (wp_seq (aA (rc j 4 g [] [(13, .bool (!(dB y)))] [qw 3 rfl (Shape.len hc), qc func46 rfl (fun W s b => nE W (aR hc s.below) aE), .o] aD fun t F d G q => (aB (bZ (d.at 13) (fun H => ?_) (fun H => ?_))))))))))))
 ·refine wp_seq (aA (sg (aV aL rfl (d.at 6) (G.get 0 rfl) (Shape.len (bB (G.get 1 rfl) rfl)) (sgn (aJ (cs := D) aL (bB (G.f2.get 2 rfl) rfl) (d.at 4) rfl G.f2 rfl ?_))))); intro t a
  refine sg (aG (aB (wr (eH aL rfl results149 (d.at 4) (a.get 0 rfl) (Shape.len (bB (a.get 2 rfl) rfl)) rfl ?_))))
  have hfe : cO y id = (y, 8) := by unfold cO; rw [if_pos (aY H)]
  rw [hfe]
  exact ⟨_, _, rfl, a.f2.d1.d1.d1⟩
 refine wp_seq (aA (rn G 3 d [] [(18, .bool (decide ((bJ y id) < 0)))] [.o] aD fun t J => (aB (aP (J.at 18) (fun K => ?_) (fun K => ?_)))))
 ·refine wp_seq (aA (sg (aV aL rfl (J.at 6) (G.get 0 rfl) (Shape.len (bB (G.get 1 rfl) rfl)) (sgn (aJ (cs := D) aL (bB (G.f2.get 2 rfl) rfl) (J.at 4) rfl G.f2 rfl ?_))))); intro t a
  refine sg (aG (aB (wr (eH aL rfl results149 (J.at 4) (a.get 0 rfl) (Shape.len (bB (a.get 2 rfl) rfl)) rfl ?_))))
  have hfe : cO y id = (y, 10) := tJ (aX H) K
  rw [hfe]
  exact ⟨_, _, rfl, a.f2.d1.d1.d1⟩
 refine wp_seq ?_
 have hY := iE (aX H)
 have L := sN K
 obtain ⟨r, hr⟩ := L
 have hrw : r.wt ≤ 1048576 := by have := (hY.run _ r hr).1.wt; omega
 refine aA ?_
 have M := hc
 obtain ⟨N, O, t, c, rfl, d, g, a, rfl⟩ := M
 have j : (bJ y id).toNat < y.runs.length := (gsi_.1 hr).1
 have L := eB a (i := (bJ y id).toNat) hr
 obtain ⟨P, R, n, q, S, T, U, z⟩ := L
 have X := U
 obtain ⟨Y, Z, t, c, rfl, d, g, A, rfl⟩ := X
 refine rn G 8 J [] [(22, .bool (!decide (r.state = 1)))] [qb 3 rfl 3, qxe S (e := bJ y id) aE, qr T 6, .o] aD fun a a0 => (aB (cQ (a0.at 22) (fun j => ?_) (fun j => ?_)))
 ·refine wp_seq (aA (sg (aV aL rfl (a0.at 6) (G.get 0 rfl) (Shape.len (bB (G.get 1 rfl) rfl)) (sgn (aJ (cs := D) aL (bB (G.f2.get 2 rfl) rfl) (a0.at 4) rfl G.f2 rfl ?_))))); intro t a
  refine sg (aG (aB (wr (eH aL rfl results149 (a0.at 4) (a.get 0 rfl) (Shape.len (bB (a.get 2 rfl) rfl)) rfl ?_))))
  have hfe : cO y id = (y, 12) := by rw [lR (aX H) K hr, if_pos aE]
  rw [hfe]
  exact ⟨_, _, rfl, a.f2.d1.d1.d1⟩
 refine wp_skip (wp_seq ?_)
 have L := eM G.f1
 obtain ⟨b0, c0, e0, f0, g0, t, h0⟩ := L
 subst g0
 refine cK 9 [(some 8, none, .of (ι := List Value × List Nat) [39] (fun ⟨t, a⟩ => [.agg t.toArray]) (fun ⟨t, a⟩ => Res.own (α := Run) (.agg t.toArray) (pO r) a))] [(true, .is (.pointer (some ⟨E, 0 + 3, none⟩))), (true, .is (c0)), (true, .is (I (bJ y id))), (true, .is (.pointer (some ⟨p, 0 + 3, none⟩))), (true, .is (O)), (true, .is (I (bJ y id))), (true, .is (.pointer (some ⟨P, R, none⟩))), (true, .is (.agg #[I r.id, I r.plan.prio, I r.plan.most, I r.plan.wait, I r.plan.tasks, Y, I r.state, Z])), (false, .ex (fun (t : List Value) => .agg t.toArray))] mix aD aD aD aD (rs0 := []) rfl h0 (Below.refl _ _) ⟨(fq_ dG (a0.at 6)), (fun f W hst hbl hd hf => aW fR rfl (hd 0 31 rfl rfl) (hst.get 2 rfl) (i := 3) rfl rfl brq), (mq_ (a0.at 7)), (fq_ dG (a0.at 2)), (fun f W hst hbl hd hf => aW fR rfl (hd 3 34 rfl rfl) (hst.get 4 rfl) (i := 3) rfl rfl brq), (mq_ (a0.at 7)), (fun f W hst hbl hd hf => aT dS (hd 4 35 rfl rfl) S (hd 5 36 rfl rfl) aE brq), (fun f W hst hbl hd hf => fZ (cs := [I r.id, I r.plan.prio, I r.plan.most, I r.plan.wait, I r.plan.tasks, Y, I r.state, Z]) bP rfl (hd 6 37 rfl rfl) T hst.below (i := 0) rfl rfl rfl brq), ?_, trivial⟩ ?_
 ·intro f W ru oth hu hst hbl hd hf
  have c : ru = [] := hu
  subst c
  try simp only [cap_, cL] at hst
  refine (bC func208 rfl (hd 7 38 rfl rfl) ((RunLeftI W (aR U hst.below) aE).mono ?_)); rintro _ d ⟨t, a, rfl, g⟩; refine ⟨_, rfl, ?_⟩
  have j := St.call hst g
  exact ⟨⟨t, rfl⟩, ⟨_, ⟨_, _, rfl, ⟨(t, a), (ce rfl rfl), rfl⟩, rfl⟩, j⟩, (hbl.trans (Below.mono g.below hbl.size))⟩
 intro n p rs_ hAL_ q z A d
 obtain ⟨_, _, rfl, ⟨⟨t, a⟩, B, rfl⟩, c⟩ := hAL_
 have c : _ = [] := c
 subst c
 have D : n 39 = .agg t.toArray := congrArg (fun l => l.getD 0 undef) B
 try simp only [cap_, cL] at q
 have g := q.f2
 have L := St.lendx (α := Run) aZ g (x := r) hr
 obtain ⟨a, j, p, z, post101, E, F, G, J, c⟩ := L
 have n := c.f1.uncs rfl
 refine sg (aT dS (A 1 32 aZ rfl) G (A 2 33 aZ rfl) aE (sgn (kS (cs := t) bP (bB (n.f1.get 3 rfl) rfl) rfl D n.f1 rfl (Shape.len (bB (n.f1.get 1 rfl) rfl)) ?_))); intro a g
 refine aB (wp_seq ?_)
 have c := g.f3.cs rfl
 have L := St.give (α := Run) c.f3.f1.f2
 obtain ⟨j, p⟩ := L
 refine aA (sg (aS (cs := [I y.now, I y.seq, b0, c0]) aL rfl ((d 6 rfl).trans (a0.at 6)) (p.get 3 rfl) rfl rfl (sgn (aK aD ((d 4 rfl).trans (a0.at 4)) rfl (aC rfl (aC rfl (aC (Sl.one (aM (p.f4.get 3 rfl))) (aC (Sl.one (aM (p.f4.get 1 rfl))) bE)))) p.f4 bH rfl ?_)))); intro t a
 refine sg (aG (aB (wr (eH aL rfl results149 ((d 4 rfl).trans (a0.at 4)) (a.get 0 rfl) rfl rfl ?_))))
 have c := cH (x := (zX y (bJ y id).toNat r)) a.f1.f3 hyok
 have hfe : cO y id = ((zX y (bJ y id).toNat r), 0) := by rw [lR (aX H) K hr, if_neg aE]
 rw [hfe]
 exact ⟨_, _, rfl, c.d1.d1.d1.d1⟩
theorem CancelS {y : Yard} (hc : Shape.C w cs y fp) (id : Int) (hw : y.wt ≤ 1048576) :
  Calls prog 141 #[.agg cs.toArray, I id] w fun e w' => ∃ (cs' : List Value) (fp' : List Nat), e = .returned (.tuple #[.agg cs'.toArray, I (cO y id).2]) ∧ St w w' [Res.own (.agg cs'.toArray) (cO y id).1 fp'] := by
 have hyok : y.ok := by obtain ⟨t, a, c, d, rfl, hok, g, j, rfl⟩ := hc; exact hok
 have n : I64 y.now := hyok.1
 refine bY func141 rfl ntmps141 aZ (wp_seq (aA (sg (aI (cs := cs) rfl (St.start w) ?_)))); intro p q z A
 refine sg (aQ cI A ?_); intro B t a c
 refine sg (aG (aB (wp_seq (aA (sg (aV aL rfl rfl (c.get 1 rfl) (Shape.len hc) (sg (bC func71 rfl rfl ((hX t (aR hc c.below) aE).mono ?_))))))))); rintro _ d ⟨D, g, rfl, j⟩; refine ⟨_, rfl, ?_⟩
 have a := St.call c j
 refine sg (aQ cI a ?_); intro E n q z
 refine sgn (aJ (cs := D) aL (bB (z.get 1 rfl) rfl) rfl rfl z rfl ?_); intro t d
 refine aB (wp_seq (aA (rc d 4 Ag.nil.put.put.put.put.put.put.put.put [] [(7, I (bJ y id))] [qw 3 rfl (Shape.len hc), qc func90 rfl (fun W s b => rT W (aR hc s.below) id aE)] aD fun a c g j n => (aB (wp_seq (wp_block (wp_seq (aA (rc j 4 g [] [(13, .bool (!(dB y)))] [qw 3 rfl (Shape.len hc), qc func42 rfl (fun W s b => nD W (aR hc s.below) aE), .o] aD fun t F d G q => (aB (bZ (d.at 13) (fun H => ?_) (fun H => ?_))))))))))))
 ·refine wp_seq (aA (sg (aV aL rfl (d.at 6) (G.get 0 rfl) (Shape.len (bB (G.get 1 rfl) rfl)) (sgn (aJ (cs := D) aL (bB (G.f2.get 2 rfl) rfl) (d.at 4) rfl G.f2 rfl ?_))))); intro t a
  refine sg (aG (aB (wr (eH aL rfl results141 (d.at 4) (a.get 0 rfl) (Shape.len (bB (a.get 2 rfl) rfl)) rfl ?_))))
  have hfe : cO y id = (y, 8) := by unfold cO; rw [if_pos (aY H)]
  rw [hfe]
  exact ⟨_, _, rfl, a.f2.d1.d1.d1⟩
 refine wp_seq (aA (rn G 3 d [] [(18, .bool (decide ((bJ y id) < 0)))] [.o] aD fun t J => (aB (aP (J.at 18) (fun K => ?_) (fun K => ?_)))))
 ·refine wp_seq (aA (sg (aV aL rfl (J.at 6) (G.get 0 rfl) (Shape.len (bB (G.get 1 rfl) rfl)) (sgn (aJ (cs := D) aL (bB (G.f2.get 2 rfl) rfl) (J.at 4) rfl G.f2 rfl ?_))))); intro t a
  refine sg (aG (aB (wr (eH aL rfl results141 (J.at 4) (a.get 0 rfl) (Shape.len (bB (a.get 2 rfl) rfl)) rfl ?_))))
  have hfe : cO y id = (y, 10) := tJ (aX H) K
  rw [hfe]
  exact ⟨_, _, rfl, a.f2.d1.d1.d1⟩
 refine wp_seq ?_
 have hY := iE (aX H)
 have L := sN K
 obtain ⟨r, hr⟩ := L
 have hrw : r.wt ≤ 1048576 := by have := (hY.run _ r hr).1.wt; omega
 refine aA ?_
 have M := hc
 obtain ⟨N, O, t, c, rfl, d, g, a, rfl⟩ := M
 have P : (bJ y id).toNat < y.runs.length := (gsi_.1 hr).1
 have L := eB a (i := (bJ y id).toNat) hr
 obtain ⟨j, n, q, z, R, S, A, T⟩ := L
 have U := A
 obtain ⟨X, t, c, Y, rfl, d, g, Z, rfl⟩ := U
 refine rn G 8 J [] [(22, .bool (!decide (r.state = 1)))] [qb 3 rfl 3, qxe R (e := bJ y id) aE, qr S 6, .o] aD fun a a0 => (aB (cQ (a0.at 22) (fun j => ?_) (fun j => ?_)))
 ·refine wp_seq (aA (sg (aV aL rfl (a0.at 6) (G.get 0 rfl) (Shape.len (bB (G.get 1 rfl) rfl)) (sgn (aJ (cs := D) aL (bB (G.f2.get 2 rfl) rfl) (a0.at 4) rfl G.f2 rfl ?_))))); intro t a
  refine sg (aG (aB (wr (eH aL rfl results141 (a0.at 4) (a.get 0 rfl) (Shape.len (bB (a.get 2 rfl) rfl)) rfl ?_))))
  have hfe : cO y id = (y, 12) := by rw [lR (aX H) K hr, if_pos aE]
  rw [hfe]
  exact ⟨_, _, rfl, a.f2.d1.d1.d1⟩
 refine wp_skip (wp_seq ?_)
 have L := eM G.f1
 obtain ⟨b0, c0, e0, f0, g0, t, h0⟩ := L
 subst g0
 have P : (bJ y id).toNat < y.runs.length := (gsi_.1 hr).1
 have L := eB (aM (h0.get 1 rfl)) (i := (bJ y id).toNat) hr
 obtain ⟨a, c, d, g, j, n, q, z⟩ := L
 refine cK 9 [(some 8, none, .of (ι := List Value × List Nat) [39] (fun ⟨t, g⟩ => [.agg t.toArray]) (fun ⟨t, g⟩ => Res.own (α := Run) (.agg t.toArray) (pO r) g))] [(true, .is (.pointer (some ⟨E, 0 + 3, none⟩))), (true, .is (c0)), (true, .is (I (bJ y id))), (true, .is (.pointer (some ⟨E, 0 + 3, none⟩))), (true, .is (c0)), (true, .is (I (bJ y id))), (true, .is (.pointer (some ⟨a, c, none⟩))), (true, .is (.agg d.toArray)), (false, .ex (fun (t : List Value) => .agg t.toArray))] mix aD aD aD aD (rs0 := []) rfl h0 (Below.refl _ _) ⟨(fq_ dG (a0.at 6)), (fun f W hst hbl hd hf => aW fR rfl (hd 0 31 rfl rfl) (hst.get 2 rfl) (i := 3) rfl rfl brq), (mq_ (a0.at 7)), (fq_ dG (a0.at 6)), (fun f W hst hbl hd hf => aW fR rfl (hd 3 34 rfl rfl) (hst.get 2 rfl) (i := 3) rfl rfl brq), (mq_ (a0.at 7)), (fun f W hst hbl hd hf => aT dS (hd 4 35 rfl rfl) j (hd 5 36 rfl rfl) aE brq), (fun f W hst hbl hd hf => cY bP rfl (hd 6 37 rfl rfl) n hbl (Shape.len q) brq), ?_, trivial⟩ ?_
 ·intro f W ru oth hu hst hbl hd hf
  have a : ru = [] := hu
  subst a
  try simp only [cap_, cL] at hst
  refine (bC func199 rfl (hd 7 38 rfl rfl) ((RunLeftS W (aR q hbl) aE).mono ?_)); rintro _ c ⟨t, g, rfl, d⟩; refine ⟨_, rfl, ?_⟩
  have j := St.call hst d
  exact ⟨⟨t, rfl⟩, ⟨_, ⟨_, _, rfl, ⟨(t, g), (ce rfl rfl), rfl⟩, rfl⟩, j⟩, (hbl.trans (Below.mono d.below hbl.size))⟩
 intro n p rs_ hAL_ q z A c
 obtain ⟨_, _, rfl, ⟨⟨t, g⟩, B, rfl⟩, a⟩ := hAL_
 have a : _ = [] := a
 subst a
 have D : n 39 = .agg t.toArray := congrArg (fun l => l.getD 0 undef) B
 try simp only [cap_, cL] at q
 have d := q.f2
 have L := St.lendx (α := Run) aZ d (x := r) hr
 obtain ⟨g, j, p, z, post102, E, F, G, J, a⟩ := L
 have n := a.f1.uncs rfl
 refine sg (aT dS (A 1 32 aZ rfl) G (A 2 33 aZ rfl) aE (sgn (kS (cs := t) bP (bB (n.f1.get 3 rfl) rfl) rfl D n.f1 rfl (Shape.len (bB (n.f1.get 1 rfl) rfl)) ?_))); intro d g
 refine aB (wp_seq ?_)
 have a := g.f3.cs rfl
 have L := St.give (α := Run) a.f3.f1.f2
 obtain ⟨j, p⟩ := L
 refine aA (sg (aS (cs := [I y.now, I y.seq, b0, c0]) aL rfl ((c 6 rfl).trans (a0.at 6)) (p.get 3 rfl) rfl rfl (sgn (aK aD ((c 4 rfl).trans (a0.at 4)) rfl (aC rfl (aC rfl (aC (Sl.one (aM (p.f4.get 3 rfl))) (aC (Sl.one (aM (p.f4.get 1 rfl))) bE)))) p.f4 bH rfl ?_)))); intro t a
 refine sg (aG (aB (wr (eH aL rfl results141 ((c 4 rfl).trans (a0.at 4)) (a.get 0 rfl) rfl rfl ?_))))
 have d := cH (x := (zX y (bJ y id).toNat r)) a.f1.f3 hyok
 have hfe : cO y id = ((zX y (bJ y id).toNat r), 0) := by rw [lR (aX H) K hr, if_neg aE]
 rw [hfe]
 exact ⟨_, _, rfl, d.d1.d1.d1.d1⟩
section
variable {α : Type} [Shape α]
def Res.es (cells : List Value) (xs : List α) (fe : List Nat) : Res where
 fp := fe
 holds := fun W => Elems W cells xs fe ∧ ∀ b ∈ fe, Wr W b
 loc := fun hs hb h => ⟨h.1.loc hs hb, fun b hm => (h.2 b hm).loc (hb b hm)⟩
 wr := fun h b hb => h.2 b hb
theorem Elems.parts' {W : World} : ∀ {xs : List α} {cells : List Value} {fe : List Nat} (i : Nat), i ≤ xs.length → Elems W cells xs fe → ∃ f1 f2, fe = f1 ++ f2 ∧ Elems W (cells.take (i * Shape.size α)) (xs.take i) f1 ∧ Elems W (cells.drop (i * Shape.size α)) (xs.drop i) f2
 | xs, cells, fe, 0, _, h => ⟨[], fe, rfl, by simpa using (show Elems W [] ([] : List α) [] from ⟨rfl, rfl⟩), by simpa using h⟩
 | x :: xs, cells, fe, i + 1, hi, ⟨cs, rest, f1, f2, h1, h2, h3, h4⟩ => by
  have hl := Shape.len h2
  obtain ⟨g1, g2, e, p1, p2⟩ := Elems.parts' i (by simpa using hi) h3
  subst h1 h4 e
  have e1 : (cs ++ rest).take ((i + 1) * Shape.size α) = cs ++ rest.take (i * Shape.size α) := by
   rw [Nat.add_mul, Nat.one_mul, Nat.add_comm, ← hl, take_length_add_append]
  have s : (cs ++ rest).drop ((i + 1) * Shape.size α) = rest.drop (i * Shape.size α) := by
   rw [Nat.add_mul, Nat.one_mul, Nat.add_comm, ← hl, drop_length_add_append]
  refine ⟨f1 ++ g1, g2, by rw [append_assoc], ?_, ?_⟩
  ·rw [e1]; exact ⟨cs, _, f1, g1, rfl, h2, p1, rfl⟩
  rw [s]; exact p2
 | [], cells, fe, i + 1, hi, _ => by simp at hi
theorem St.ownOpen' {w0 W : World} {rs : List Res} {v : Value} {xs : List α} {fp : List Nat} (h : St w0 W (Res.own v xs fp :: rs)) (hs : 0 < Shape.size α) (hne : 0 < xs.length) :
  ∃ b off cap C e fe, v = .slice (some ⟨b, off, none⟩) xs.length cap ∧ xs.length ≤ cap ∧ cap ≤ 9223372036854775807 ∧ off + xs.length * Shape.size α ≤ C.length ∧ St w0 W (Res.bx b C e :: Res.es ((C.drop off).take (xs.length * Shape.size α)) xs fe :: rs) := by
 have hown := h.get 0 rfl
 have hwr := hown.2
 obtain ⟨ao, cap, s, t, a, d⟩ := aM hown
 rcases d with ⟨g, _⟩ | ⟨b, off, f, _, n, rfl, hb, d⟩
 ·rw [g] at hne; exact absurd hne (by simp)
 subst n
 obtain ⟨cells, he, hr⟩ := Elems.of_at off d
 obtain ⟨C, e, hC⟩ := hwr b (by simp)
 have hcl : cells.length = xs.length * Shape.size α := he.len
 have hpos : 0 < xs.length * Shape.size α := Nat.mul_pos hne hs
 have hget : ∀ j v, cells[j]? = some v → C.toList[off + j]? = some v := fun j v hj => by
  have := hr j v hj
  simpa [World.cell?, hC] using this
 have hle : off + xs.length * Shape.size α ≤ C.toList.length := by
  have hj := getElem?_eq_getElem (l := cells) (i := xs.length * Shape.size α - 1) aE
  have := (gsi_.1 (hget _ _ hj)).1
  omega
 have hce : cells = (C.toList.drop off).take (xs.length * Shape.size α) := by
  apply ext_getElem?
  intro j
  rw [getElem?_take]
  by_cases hj : j < xs.length * Shape.size α
  ·rw [if_pos hj, getElem?_drop, getElem?_eq_getElem aE]
   exact (hget j _ (getElem?_eq_getElem aE)).symm
  rw [if_neg hj, getElem?_eq_none aE]
 refine ⟨b, off, cap, C.toList, e, f, s, t, a, hle, ?_⟩
 refine St.trade (rs1 := [Res.own v xs (b :: f)]) (rs2 := [Res.bx b C.toList e, Res.es _ xs f]) h ?_ ?_ ?_
 ·have := h.nodup
  rw [flatMap_cons, nodup_append] at this
  simpa [Res.own, Res.bx, Res.es] using this.1
 ·intro c hc; simpa [Res.own, Res.bx, Res.es] using hc
 intro r p
 rcases mem_cons.1 p with rfl | p
 ·show W.heap[b]? = some (.cells C.toList.toArray e (0, 0)); simpa using hC
 rw [mem_singleton] at p; subst p
 exact ⟨by rw [← hce]; exact he, fun c hc => hwr c (mem_cons_of_mem _ hc)⟩
theorem St.ownShut' {w0 W : World} {rs : List Res} {b off cap m : Nat} {C cells : List Value} {e : TypeId} {ys : List α} {fe : List Nat} (h : St w0 W (Res.bx b C e :: Res.es cells ys fe :: rs)) (hcl : cells = (C.drop off).take (m * Shape.size α)) (hm : ys.length = m) (h1 : m ≤ cap) (h2 : cap ≤ 9223372036854775807) :
  ∃ fp, St w0 W (Res.own (.slice (some ⟨b, off, none⟩) m cap) ys fp :: rs) := by
 have hB : W.heap[b]? = some (.cells C.toArray e (0, 0)) := h.get 0 rfl
 have hE := h.get 1 rfl
 subst hm
 cases ys with
 | nil =>
  refine ⟨[], St.trade (rs1 := [Res.bx b C e, Res.es cells [] fe]) (rs2 := [Res.own _ ([] : List α) []]) h (by simp [Res.own]) (by simp [Res.own]) ?_⟩
  intro r hr; rw [mem_singleton] at hr; subst hr
  exact ⟨Sl.v ⟨_, cap, rfl, h1, h2, .inl ⟨rfl, rfl⟩⟩, by simp⟩
 | cons y ys =>
  refine ⟨b :: fe, St.trade (rs1 := [Res.bx b C e, Res.es cells (y :: ys) fe]) (rs2 := [Res.own _ (y :: ys) (b :: fe)]) h ?_ (by intro c hc; simpa [Res.own, Res.bx, Res.es] using hc) ?_⟩
  ·have hn := h.nodup
   rw [flatMap_cons, flatMap_cons, ← append_assoc, nodup_append] at hn
   simpa [Res.own, Res.bx, Res.es] using hn.1
  intro r hr; rw [mem_singleton] at hr; subst hr
  refine ⟨Sl.v ⟨_, cap, rfl, h1, h2, .inr ⟨b, off, fe, by simp, rfl, rfl, (Array.getElem?_eq_some_iff.1 hB).1, ?_⟩⟩, ?_⟩
  ·refine hE.1.at off ?_
   intro j u hj
   rw [hcl] at hj
   have := bQ hB (off + j) u (sS hj)
   simpa using this
  intro c hc
  rcases mem_cons.1 hc with rfl | hc
  ·exact ⟨_, _, hB⟩
  exact hE.2 c hc
theorem St.es_sub {w0 W : World} {rs : List Res} {cells cells' : List Value} {xs ys : List α} {fe fe' : List Nat} (h : St w0 W (Res.es cells xs fe :: rs)) (hs : fe'.Sublist fe) (he : Elems W cells' ys fe') : St w0 W (Res.es cells' ys fe' :: rs) := by
 have hh := h.get 0 rfl
 refine St.trade (rs1 := [Res.es cells xs fe]) (rs2 := [Res.es cells' ys fe']) h ?_ ?_ ?_
 ·have := h.nodup
  rw [flatMap_cons, nodup_append] at this
  simpa [Res.es] using hs.nodup this.1
 ·intro c hc; simp [Res.es] at hc ⊢; exact hs.subset hc
 intro r hr; rw [mem_singleton] at hr; subst hr
 exact ⟨he, fun c hc => hh.2 c (hs.subset hc)⟩
theorem Elems.erase {W : World} {xs : List α} {cells : List Value} {fe : List Nat} {k : Nat} (hk : k < xs.length) (h : Elems W cells xs fe) : ∃ f1 f2 f3, fe = f1 ++ (f2 ++ f3) ∧ Elems W (cells.take (k * Shape.size α) ++ cells.drop ((k + 1) * Shape.size α)) (xs.eraseIdx k) (f1 ++ f3) := by
 obtain ⟨f1, g, rfl, s, t⟩ := h.parts' k aE
 obtain ⟨f2, f3, rfl, a, b⟩ := t.parts' 1 (by rw [length_drop]; omega)
 refine ⟨f1, f2, f3, rfl, ?_⟩
 rw [drop_drop, drop_drop] at b
 rw [eraseIdx_eq_take_drop_succ]
 have e : k * Shape.size α + 1 * Shape.size α = (k + 1) * Shape.size α := by rw [Nat.add_mul]
 rw [e] at b
 exact s.append b
end
section
variable {P : Program} {n : Nat} {f : Nat → Value} {w0 W : World} {rs : List Res} {Q : Exit → Act → World → Prop} {d : Option Tmp} {ty : TypeId} {pos : String} {af : Array Go.Edge} {g : Option (Nat × Bool)} {K : Value → World → Prop} {α : Type} [Shape α]
theorem stp_x3 {t t' : TypeId} {x y z u : Operand} {ao : Option Addr} {m c l h mx : Nat} {e1 e2 e3 : Int} (hT : SlOk P t t' α) (hx : ev n f x = .slice ao m c) (hy : ev n f y = I e1) (hz : ev n f z = I e2) (hu : ev n f u = I e3) (h1 : e1 = l) (h2 : e2 = h) (h3 : e3 = mx) (hl : l ≤ h) (hh : h ≤ mx) (hm : mx ≤ c) (k : ∀ v, K v W) :
  Stp P n ⟨d, .slice t x (some y) (some z) (some u), ty, pos, af, g⟩ f W Q K := by
 subst h1 h2 h3
 have hel : P.elem t = t' := by simp [Program.elem, hT.desc]
 have s : P.underlying t = some (.slice (P.elem t)) := by rw [hel]; exact hT.desc
 refine Stp.run (v := sliced ao l h mx (Shape.size α)) ?_ (k _)
 simp only [execOp, hx, hy, hz, hu, Sem.run_bind, Option.map_none, Option.map_some]
 rw [run_sliceAt_slice (h := s), run_slice_lhm (ht := s) (h0 := by omega) (h1 := by omega) (h2 := by omega) (h3 := by omega), hel, jK hT.size]
 simp
theorem aO2 {t t' : TypeId} {x y z : Operand} {b o m c l h : Nat} {e1 e2 : Int} (hT : SlOk P t t' α) (hx : ev n f x = .slice (some ⟨b, o, none⟩) m c) (hy : ev n f y = I e1) (hz : ev n f z = I e2) (h1 : e1 = l) (h2 : e2 = h) (hl : l ≤ h) (hh : h ≤ c) (hne : l < c) (k : K (.slice (some ⟨b, o + l * Shape.size α, none⟩) (h - l) (c - l)) W) :
  Stp P n ⟨d, .slice t x (some y) (some z) none, ty, pos, af, g⟩ f W Q K := by
 subst h1 h2
 have hel : P.elem t = t' := by simp [Program.elem, hT.desc]
 have s : P.underlying t = some (.slice (P.elem t)) := by rw [hel]; exact hT.desc
 refine Stp.run (v := sliced (some ⟨b, o, none⟩) l h c (Shape.size α)) ?_ (by rw [tW hne]; exact k)
 simp only [execOp, hx, hy, hz, Sem.run_bind, Option.map_none, Option.map_some]
 rw [run_sliceAt_slice (h := s), run_slice_lh (ht := s) (h0 := by omega) (h1 := by omega) (h2 := by omega), hel, jK hT.size]
 simp
theorem aO1 {t t' : TypeId} {x y : Operand} {ao : Option Addr} {m c l : Nat} {e : Int} (hT : SlOk P t t' α) (hx : ev n f x = .slice ao m c) (hy : ev n f y = I e) (he : e = l) (hl : l = m) (hc : l = c) (k : K (.slice ao 0 0) W) : Stp P n ⟨d, .slice t x (some y) none none, ty, pos, af, g⟩ f W Q K := by
 subst he hl hc
 have hel : P.elem t = t' := by simp [Program.elem, hT.desc]
 have hu : P.underlying t = some (.slice (P.elem t)) := by rw [hel]; exact hT.desc
 refine Stp.run (W' := W) (v := sliced ao l l l (Shape.size α)) ?_ (by simpa [sliced] using k)
 simp only [execOp, hx, hy, Sem.run_bind, Option.map_none, Option.map_some]
 rw [run_sliceAt_slice (h := hu), run_slice_l (ht := hu) (h0 := by omega) (h1 := by omega), hel, jK hT.size]
 simp
theorem yS {t e e' : TypeId} {x y : Operand} {b o i c m c2 oy q : Nat} {ad : Addr} {C : List Value} (hT : SlOk P t e α) (hx : ev n f x = .slice (some ⟨b, o, none⟩) i c) (hy : ev n f y = .slice (some ad) m c2) (had : 0 < m → ad = ⟨b, oy, none⟩) (hq : i + m = q) (hroom : q ≤ c) (hl1 : oy + m * Shape.size α ≤ C.length) (hl2 : o + i * Shape.size α + m * Shape.size α ≤ C.length)
  (h1 : ∀ v ∈ (C.drop oy).take (m * Shape.size α), v.oneCell' = true) (hst : St w0 W (Res.bx b C e' :: rs)) (k : ∀ W', St w0 W' (Res.bx b (cC C (o + i * Shape.size α) ((C.drop oy).take (m * Shape.size α))) e' :: rs) → K (.slice (some ⟨b, o, none⟩) q c) W') :
  Stp P n ⟨d, .call { callee := .builtin .append, args := #[x, y], argTypes := #[t, t] }, ty, pos, af, g⟩ f W Q K := by
 subst hq
 have hB : W.heap[b]? = some (.cells C.toArray e' (0, 0)) := hst.get 0 rfl
 have hnl : ((C.drop oy).take (m * Shape.size α)).length = m * Shape.size α := by rw [length_take, length_drop]; omega
 have hsz := hT.size
 cases hi : P.info? e with
 | none => simp [hi] at hsz
 | some i0 =>
  have hs : i0.size = Shape.size α := by simpa [hi] using hsz
  have hr := run_append_room_cells (P := P) (w := W) t ty e i0 hT.desc hi b o i c ad m c2 ((C.drop oy).take (m * Shape.size α)) (by rw [hnl, hs]) (fun j u hj => by
    have s := (gsi_.1 hj).1
    rw [hnl] at s
    have hm : 0 < m := Nat.pos_of_ne_zero (fun a => by rw [a] at s; simp at s)
    rw [had hm, Addr.add_mid]
    have := bQ hB (oy + j) u (sS hj)
    simpa using this) h1 hroom (fun j hj => by rw [hnl] at hj; rw [hs]; simp [World.cell?, hB]; omega) (fun j hj => by simp [World.frozen?, hB])
  rw [hs] at hr
  refine Stp.run (v := .slice (some ⟨b, o, none⟩) (i + m) c) (W' := W.setCells b (o + i * Shape.size α) ((C.drop oy).take (m * Shape.size α))) ?_ (k _ (hst.store _ _ (by rw [hnl]; omega)))
  simp only [execOp, resolve, invoke, builtin, Sem.run_bind, Sem.run_pure, Result.andThen_ok, map_toArray, map_cons, map_nil, hx, hy, hr]
theorem wD {t e e' : TypeId} {x : Operand} {b o m c s : Nat} {C zs : List Value} (hT : P.underlying t = some (.slice e)) (hz : ((P.info? e).bind (·.zero)).map (·.cells) = some zs.toArray) (hzl : zs.length = s) (hs : 0 < s) (hz1 : ∀ v ∈ zs, v.oneCell' = true) (hx : ev n f x = .slice (some ⟨b, o, none⟩) m c) (hm : 0 < m) (hst : St w0 W (Res.bx b C e' :: rs)) (hle : o + m * s ≤ C.length)
  (k : ∀ Z W', Z.length = m * s → St w0 W' (Res.bx b (cC C o Z) e' :: rs) → K (.tuple #[]) W') : Stp P n ⟨d, .call { callee := .builtin .clear, args := #[x], argTypes := #[t] }, ty, pos, af, g⟩ f W Q K := by
 have hB : W.heap[b]? = some (.cells C.toArray e' (0, 0)) := hst.get 0 rfl
 have hZl : (Builtin.zeroCells zs.toArray m).toList.length = m * s := by rw [Array.length_toList, size_zeroCells, size_toArray, hzl]
 cases hi : P.info? e with
 | none => simp [hi] at hz
 | some i =>
  cases hzz : i.zero with
  | none => simp [hi, hzz] at hz
  | some z =>
   have hzc : z.cells = zs.toArray := by simpa [hi, hzz] using hz
   have a : ∀ v ∈ (Builtin.zeroCells zs.toArray m).toList, v.oneCell' = true := by
    intro v hv
    simp only [Builtin.zeroCells, Array.toList_map, mem_map] at hv
    obtain ⟨j, _, rfl⟩ := hv
    have hj : j % zs.length < zs.length := Nat.mod_lt _ aE
    have hq : zs.toArray[j % zs.toArray.size]! = zs[j % zs.length] := by simp [hj]
    first | (rw [hq]; exact hz1 _ (getElem_mem _)) | (simp only [size_toArray] at *; rw [hq]; exact hz1 _ (getElem_mem _))
   have p := run_storeCells_cells (P := P) b o (Builtin.zeroCells zs.toArray m).toList 0 W (fun j hj => by simp [World.cell?, hB]; omega) (fun j hj => by simp [World.frozen?, hB]) a
   simp only [Nat.add_zero] at p
   have hr : (Builtin.clear_ #[t] ty #[.slice (some ⟨b, o, none⟩) m c]).run P W = .ok (.tuple #[]) (W.setCells b o (Builtin.zeroCells zs.toArray m).toList) := by
    obtain ⟨m', rfl⟩ : ∃ m', m = m' + 1 := ⟨m - 1, by omega⟩
    simp [Builtin.clear_, run_underlying hT, zeroValue, typeInfo, hi, hzz, hzc, p]
   refine Stp.run (v := .tuple #[]) (W' := W.setCells b o (Builtin.zeroCells zs.toArray m).toList) ?_ (k _ _ hZl (hst.store o _ (by rw [hZl]; exact hle)))
   simp only [execOp, resolve, invoke, builtin, Sem.run_bind, Sem.run_pure, Result.andThen_ok, map_toArray, map_cons, map_nil, hx, hr]
end
theorem aK7 {C : List Value} {o a b c : Nat} {v : Value} (h : v ∈ (C.drop (o + a)).take b) (hc : a + b ≤ c) : v ∈ (C.drop o).take c := by
 obtain ⟨j, hj⟩ := mem_iff_getElem?.1 h
 rw [getElem?_take] at hj
 split at hj
 ·refine mem_iff_getElem?.2 ⟨a + j, ?_⟩
  rw [getElem?_take, if_pos aE, getElem?_drop]
  rwa [getElem?_drop, Nat.add_assoc] at hj
 cases hj
theorem yT {P Q R V : List Value} (h : Q.length = V.length) : cC (P ++ (Q ++ R)) P.length V = P ++ (V ++ R) := by
 rw [qD _ _ _ (by simp; omega), take_left, append_assoc]
 congr 2
 rw [drop_length_add_append, ← h, drop_left]
theorem zS {C Z : List Value} {o s k m : Nat} (hk : k < m) (hle : o + m * s ≤ C.length) (hZ : Z.length = 1 * s) :
  ((cC (cC C (o + k * s) ((C.drop (o + (k + 1) * s)).take ((m - (k + 1)) * s))) (o + (m - 1) * s) Z).drop o).take ((m - 1) * s) = ((C.drop o).take (m * s)).take (k * s) ++ ((C.drop o).take (m * s)).drop ((k + 1) * s) := by
 obtain ⟨p, rfl⟩ : ∃ p, m = k + 1 + p := ⟨m - (k + 1), by omega⟩
 have t : k + 1 + p - (k + 1) = p := by omega
 have a : k + 1 + p - 1 = k + p := by omega
 rw [t, a]
 have b : (k + 1 + p) * s = k * s + s + p * s := by rw [Nat.add_mul, Nat.add_mul, Nat.one_mul]
 have c : (k + p) * s = k * s + p * s := Nat.add_mul ..
 have d : (k + 1) * s = k * s + s := by rw [Nat.add_mul, Nat.one_mul]
 rw [b] at hle
 rw [b, c, d]
 rw [Nat.one_mul] at hZ
 generalize k * s = A at *
 generalize p * s = B at *
 obtain ⟨P, X, S, Y, T, rfl, rfl, rfl, rfl, rfl⟩ : ∃ P X S Y T : List Value, C = P ++ (X ++ (S ++ (Y ++ T))) ∧ P.length = o ∧ X.length = A ∧ S.length = s ∧ Y.length = B := by
  refine ⟨C.take o, (C.drop o).take A, ((C.drop o).drop A).take s, (((C.drop o).drop A).drop s).take B, (((C.drop o).drop A).drop s).drop B, ?_, ?_, ?_, ?_, ?_⟩
  ·simp only [take_append_drop]
  all_goals (simp only [length_take, length_drop]; omega)
 have t : ((P ++ (X ++ (S ++ (Y ++ T)))).drop (P.length + (X.length + S.length))).take Y.length = Y := by
  rw [drop_length_add_append, drop_length_add_append, drop_left, take_left]
 rw [t]
 have hl : Y.length ≤ (S ++ (Y ++ T)).length := by simp; omega
 have a : cC (P ++ (X ++ (S ++ (Y ++ T)))) (P.length + X.length) Y = (P ++ X) ++ (Y ++ (S ++ (Y ++ T)).drop Y.length) := by
  have := yT (P := P ++ X) (Q := (S ++ (Y ++ T)).take Y.length) (R := (S ++ (Y ++ T)).drop Y.length) (V := Y) (by rw [length_take]; omega)
  rw [take_append_drop, length_append, append_assoc] at this
  exact this
 rw [a]
 have hr : ((S ++ (Y ++ T)).drop Y.length).length = S.length + T.length := by simp; omega
 generalize (S ++ (Y ++ T)).drop Y.length = R at hr
 have t : cC ((P ++ X) ++ (Y ++ R)) (P.length + (X.length + Y.length)) Z = ((P ++ X) ++ Y) ++ (Z ++ R.drop S.length) := by
  have := yT (P := (P ++ X) ++ Y) (Q := R.take S.length) (R := R.drop S.length) (V := Z) (by rw [length_take]; omega)
  rw [take_append_drop, length_append, length_append, append_assoc, Nat.add_assoc] at this
  exact this
 rw [t, append_assoc, append_assoc, drop_left, drop_left, ← append_assoc X Y, ← length_append, take_left]
 have a : (X ++ (S ++ (Y ++ T))).take (X.length + S.length + Y.length) = X ++ (S ++ Y) := by
  have : X.length + S.length + Y.length = (X ++ (S ++ Y)).length := by simp; omega
  rw [this, show X ++ (S ++ (Y ++ T)) = (X ++ (S ++ Y)) ++ T by simp, take_left]
 rw [a, take_left, drop_length_add_append, drop_left]
theorem DeleteRun {w W0 : World} {rs : List Res} {v : Value} {xs : List Run} {fp : List Nat} {k : Nat} (hst : St w W0 (Res.own v xs fp :: rs)) (hk : k < xs.length) (hxl : xs.length ≤ 1048576 := by omega) :
  Calls prog 209 #[v, I (k : Int), I ((k : Int) + 1)] W0 fun e w' => ∃ (v' : Value) (fp' : List Nat), e = .returned v' ∧ St w w' (Res.own v' (xs.eraseIdx k) fp' :: rs) := by
 refine iS func209 rfl ntmps209 aZ (wp_seq ?_)
 have t := St.ownOpen' hst aZ aE
 obtain ⟨bD, oD, cD, CD, eD, feD, hvD, hcD, hmD, hlD, a⟩ := t
 subst hvD
 refine aA (sg (aF (v := .slice none 0 0) rfl (aB (wp_seq (aA (rn a 5 Ag.nil.put.put.put.put [] [(8, .slice (some ⟨bD, oD, none⟩) xs.length cD), (9, I (k : Int)), (10, I ((k : Int) + 1)), (12, I ((xs.length : Nat) : Int))] [.l (.slice (some ⟨bD, oD, none⟩) xs.length cD) xs.length ⟨_, _, rfl⟩] aD fun f5 b => (sg (stp_x3 (l := k) (h := k + 1) (mx := xs.length) dS (b.at 8) (b.at 9) (b.at 10) (b.at 12) aE aE aE aE aE aE ?_)))))))); intro c
 refine aB (wp_seq (wp_seq (aA (rn a 3 b.put [] [(16, .bool (decide ((k : Int) = ((k : Int) + 1))))] [.o] aD fun f7 d => (aB (aP (d.at 16) (fun g => ?_) (fun g => ?_)))))))
 ·omega
 refine wp_skip (wp_seq (aA (rn a 3 d [] [(7, I ((xs.length : Nat) : Int))] [.l (.slice (some ⟨bD, oD, none⟩) xs.length cD) xs.length ⟨_, _, rfl⟩] aD fun f10 j => (aB (wp_seq ?_)))))
 rcases nem (k + 1 < cD) with b | b
 ·refine cK 6 [] [(true, .is (.slice (some ⟨bD, oD, none⟩) xs.length cD)), (true, .is (I (k : Int))), (true, .is (.slice (some ⟨bD, oD, none⟩) k cD)), (true, .is (.slice (some ⟨bD, oD, none⟩) xs.length cD)), (true, .is (I ((k : Int) + 1))), (true, .is (.slice (some ⟨bD, oD, none⟩) 0 0))] mix aD aD aD aD (rs0 := []) rfl a (Below.refl _ _) ⟨(mq_ (j.at 0)), (mq_ (j.at 1)), (fun f W hst hbl hd hf => rI (h := k) dS (hd 0 20 rfl rfl) (hd 1 21 rfl rfl) aE aE aE brq), (mq_ (j.at 0)), (mq_ (j.at 2)), (fun f W hst hbl hd hf => aO1 (l := k + 1) dS (hd 3 23 rfl rfl) (hd 4 24 rfl rfl) aE aE aE brq), trivial⟩ ?_
  intro f12 b rs_ hAL_ c d g n
  have p : rs_ = [] := hAL_
  subst p
  try simp only [cap_, cL] at c
  have z : ∀ v ∈ (CD.drop (oD + (k + 1) * 8)).take ((xs.length - (k + 1)) * 8), v.oneCell' = true := fun v hv => (c.get 1 rfl).1.one v (aK7 hv (by show (k + 1) * 8 + (xs.length - (k + 1)) * 8 ≤ xs.length * 8; omega))
  have b : xs.length - (k + 1) = 0 := by omega
  refine sg (yS (α := Run) (i := k) (m := xs.length - (k + 1)) (oy := oD + (k + 1) * 8) (q := xs.length - 1) dS (g 2 22 aZ rfl) (Eq.trans (g 5 25 aZ rfl) (by rw [b])) (fun hz => by omega) aE aE (by show oD + (k + 1) * 8 + (xs.length - (k + 1)) * 8 ≤ CD.length; have hl_ : oD + xs.length * 8 ≤ CD.length := hlD; omega) (by show oD + k * 8 + (xs.length - (k + 1)) * 8 ≤ CD.length; have hl_ : oD + xs.length * 8 ≤ CD.length := hlD; omega) z c ?_); intro d A
  refine sg (aF (v := .slice (some ⟨bD, oD, none⟩) (xs.length - 1) cD) rfl (aB (wp_seq (aA (rn A 4 (Ag.cons (show f12 7 = I ((xs.length : Nat) : Int) from ((n 7 rfl).trans (j.at 7))) Ag.nil).put.put [] [(27, .slice (some ⟨bD, oD, none⟩) (xs.length - 1) cD), (29, I (((xs.length - 1) : Nat) : Int)), (30, I ((xs.length : Nat) : Int))] [.l (.slice (some ⟨bD, oD, none⟩) (xs.length - 1) cD) (xs.length - 1) ⟨_, _, rfl⟩] aD fun b B => (sg (aO2 (l := xs.length - 1) (h := xs.length) dS (B.at 27) (B.at 29) (B.at 30) aE aE aE aE aE ?_)))))))
  refine sgn (wD (s := 8) (zs := [I 0, I 0, I 0, I 0, I 0, .slice none 0 0, I 0, .slice none 0 0]) underlying32 aD rfl aE (by intro v hv; simp only [mem_cons, not_mem_nil, or_false] at hv; rcases hv with rfl | rfl | rfl | rfl | rfl | rfl | rfl | rfl <;> rfl) rfl aE A (by rw [fO]; have hl_ : oD + xs.length * 8 ≤ CD.length := hlD; show oD + (xs.length - 1) * 8 + (xs.length - (xs.length - 1)) * 8 ≤ _; omega) ?_); intro ZD b hZD c
  refine aB (wp_seq (aA (sg (aH (B.at 0) (sg (aF (v := .slice (some ⟨bD, oD, none⟩) (xs.length - 1) cD) rfl (aB (wr (bA results209 rfl ?_)))))))))
  have hE_ := (c.get 1 rfl).1.erase hk
  obtain ⟨f1, f2, f3, hfe_, C⟩ := hE_
  have hs_ := c.f1.es_sub (fe' := f1 ++ f3) (by rw [hfe_]; exact (List.Sublist.refl _).append (sublist_append_right _ _)) C
  have t := St.ownShut' (off := oD) (cap := cD) (m := xs.length - 1) hs_.f1 (zS hk hlD (by rw [hZD, show xs.length - (xs.length - 1) = 1 by omega]; rfl)).symm (by rw [length_eraseIdx_of_lt hk]) aE hmD
  obtain ⟨fpz, stz⟩ := t
  exact ⟨_, fpz, rfl, stz⟩
 refine cK 6 [] [(true, .is (.slice (some ⟨bD, oD, none⟩) xs.length cD)), (true, .is (I (k : Int))), (true, .is (.slice (some ⟨bD, oD, none⟩) k cD)), (true, .is (.slice (some ⟨bD, oD, none⟩) xs.length cD)), (true, .is (I ((k : Int) + 1))), (true, .is (.slice (some ⟨bD, oD + (k + 1) * 8, none⟩) (xs.length - (k + 1)) (cD - (k + 1))))] mix aD aD aD aD (rs0 := []) rfl a (Below.refl _ _) ⟨(mq_ (j.at 0)), (mq_ (j.at 1)), (fun f W hst hbl hd hf => rI (h := k) dS (hd 0 20 rfl rfl) (hd 1 21 rfl rfl) aE aE aE brq), (mq_ (j.at 0)), (mq_ (j.at 2)), (fun f W hst hbl hd hf => nF (l := k + 1) dS (hd 3 23 rfl rfl) (hd 4 24 rfl rfl) aE aE aE brq), trivial⟩ ?_
 intro a b rs_ hAL_ c d g n
 have p : rs_ = [] := hAL_
 subst p
 try simp only [cap_, cL] at c
 have z : ∀ v ∈ (CD.drop (oD + (k + 1) * 8)).take ((xs.length - (k + 1)) * 8), v.oneCell' = true := fun v hv => (c.get 1 rfl).1.one v (aK7 hv (by show (k + 1) * 8 + (xs.length - (k + 1)) * 8 ≤ xs.length * 8; omega))
 refine sg (yS (α := Run) (i := k) (m := xs.length - (k + 1)) (oy := oD + (k + 1) * 8) (q := xs.length - 1) dS (g 2 22 aZ rfl) (g 5 25 aZ rfl) (fun _ => rfl) aE aE (by show oD + (k + 1) * 8 + (xs.length - (k + 1)) * 8 ≤ CD.length; have hl_ : oD + xs.length * 8 ≤ CD.length := hlD; omega) (by show oD + k * 8 + (xs.length - (k + 1)) * 8 ≤ CD.length; have hl_ : oD + xs.length * 8 ≤ CD.length := hlD; omega) z c ?_); intro b D
 refine sg (aF (v := .slice (some ⟨bD, oD, none⟩) (xs.length - 1) cD) rfl (aB (wp_seq (aA (rn D 4 (Ag.cons (show a 7 = I ((xs.length : Nat) : Int) from ((n 7 rfl).trans (j.at 7))) Ag.nil).put.put [] [(27, .slice (some ⟨bD, oD, none⟩) (xs.length - 1) cD), (29, I (((xs.length - 1) : Nat) : Int)), (30, I ((xs.length : Nat) : Int))] [.l (.slice (some ⟨bD, oD, none⟩) (xs.length - 1) cD) (xs.length - 1) ⟨_, _, rfl⟩] aD fun b E => (sg (aO2 (l := xs.length - 1) (h := xs.length) dS (E.at 27) (E.at 29) (E.at 30) aE aE aE aE aE ?_)))))))
 refine sgn (wD (s := 8) (zs := [I 0, I 0, I 0, I 0, I 0, .slice none 0 0, I 0, .slice none 0 0]) underlying32 aD rfl aE (by intro v hv; simp only [mem_cons, not_mem_nil, or_false] at hv; rcases hv with rfl | rfl | rfl | rfl | rfl | rfl | rfl | rfl <;> rfl) rfl aE D (by rw [fO]; have hl_ : oD + xs.length * 8 ≤ CD.length := hlD; show oD + (xs.length - 1) * 8 + (xs.length - (xs.length - 1)) * 8 ≤ _; omega) ?_); intro ZD a hZD b
 refine aB (wp_seq (aA (sg (aH (E.at 0) (sg (aF (v := .slice (some ⟨bD, oD, none⟩) (xs.length - 1) cD) rfl (aB (wr (bA results209 rfl ?_)))))))))
 have hE_ := (b.get 1 rfl).1.erase hk
 obtain ⟨f1, f2, f3, hfe_, C⟩ := hE_
 have hs_ := b.f1.es_sub (fe' := f1 ++ f3) (by rw [hfe_]; exact (List.Sublist.refl _).append (sublist_append_right _ _)) C
 have t := St.ownShut' (off := oD) (cap := cD) (m := xs.length - 1) hs_.f1 (zS hk hlD (by rw [hZD, show xs.length - (xs.length - 1) = 1 by omega]; rfl)).symm (by rw [length_eraseIdx_of_lt hk]) aE hmD
 obtain ⟨fpz, stz⟩ := t
 exact ⟨_, fpz, rfl, stz⟩

def flE (id : Int) (l : List Entry) : List Entry := l.filter (fun e => !decide (e.run = id))
theorem flE_t {id : Int} {l : List Entry} {k : Nat} {e : Entry} (he : l[k]? = some e) (h : ¬ e.run = id) : flE id (l.take (k + 1)) = flE id (l.take k) ++ [e] := by
 obtain ⟨hk, rfl⟩ := gsi_.1 he
 unfold flE; rw [take_succ_eq_append_getElem hk, filter_append]; simp [h]
theorem flE_f {id : Int} {l : List Entry} {k : Nat} {e : Entry} (he : l[k]? = some e) (h : e.run = id) : flE id (l.take (k + 1)) = flE id (l.take k) := by
 obtain ⟨hk, rfl⟩ := gsi_.1 he
 unfold flE; rw [take_succ_eq_append_getElem hk, filter_append]; simp [h]
theorem aC5 (id : Int) (l : List Entry) : (flE id l).length ≤ l.length := length_filter_le _ _
def oY (id : Int) (xss : List (List Entry)) (i : Nat) : List (List Entry) := (xss.take i).map (flE id) ++ xss.drop i
theorem uB (id : Int) (xss : List (List Entry)) : oY id xss 0 = xss := by simp [oY]
theorem xP (id : Int) (xss : List (List Entry)) (i : Nat) : (oY id xss i).length = xss.length := by simp [oY]; omega
theorem aC6 {id : Int} {xss : List (List Entry)} {i : Nat} {l : List Entry} (h : xss[i]? = some l) : (oY id xss i)[i]? = some l := by
 have hl := (gsi_.1 h).1
 unfold oY
 rw [getElem?_append_right (by simp; omega)]
 simp only [length_map, length_take, getElem?_drop]
 rw [← h]; congr 1; omega
theorem xO {id : Int} {xss : List (List Entry)} {i : Nat} {l : List Entry} (h : xss[i]? = some l) : (oY id xss i).set i (flE id l) = oY id xss (i + 1) := by
 obtain ⟨hl, rfl⟩ := gsi_.1 h
 unfold oY
 have s : ((xss.take i).map (flE id)).length = i := by simp; omega
 rw [set_append_right _ _ aE, s, Nat.sub_self, take_succ_eq_append_getElem hl, map_append, append_assoc]
 congr 1
 exact (congrArg (fun z => z.set 0 (flE id xss[i])) (drop_eq_getElem_cons hl)).trans rfl
theorem xQ {id : Int} {xss : List (List Entry)} {i : Nat} (h : i = xss.length) : oY id xss i = xss.map (flE id) := by subst h; simp [oY]
def vA (y : Yard) (id : Int) (k : Nat) : Yard := ⟨y.now, y.seq, y.shelf.map (flE id), y.runs.eraseIdx k⟩
noncomputable def cM (y : Yard) (id : Int) : Yard × Int :=
 if dB y = false then (y, 8) else match y.runs[(bJ y id).toNat]? with
  | some r => if bJ y id < 0 then (y, 10) else if r.state = 1 then (y, 13) else (vA y id (bJ y id).toNat, 0)
  | none => (y, 10)
theorem sY {y : Yard} {id : Int} (h0 : dB y = true) (h : bJ y id < 0) : cM y id = (y, 10) := by
 unfold cM
 rw [if_neg (by rw [h0]; decide)]
 cases y.runs[(bJ y id).toNat]? with
 | none => rfl
 | some r => simp only; rw [if_pos h]
theorem kG {y : Yard} {id : Int} {r : Run} (h0 : dB y = true) (h : ¬ bJ y id < 0) (hr : y.runs[(bJ y id).toNat]? = some r) : cM y id = if r.state = 1 then (y, 13) else (vA y id (bJ y id).toNat, 0) := by
 unfold cM
 rw [if_neg (by rw [h0]; decide), hr]
 simp only
 rw [if_neg h]
section
variable {P : Program} {n : Nat} {f : Nat → Value} {w0 W : World} {rs : List Res} {Q : Exit → Act → World → Prop} {d : Option Tmp} {ty : TypeId} {pos : String} {af : Array Go.Edge} {g : Option (Nat × Bool)} {K : Value → World → Prop} {α : Type} [Shape α]
theorem kT {t e e' : TypeId} {bytes : Nat} {s x : Operand} {v : Value} {xs ys : List α} {fe fy : List Nat} {ad : Addr} {c m b o : Nat} {C cells : List Value} (hT : ApOk P t e α bytes) (hs : ev n f s = v) (hx : ev n f x = .slice (some ad) m c) (hm : ys.length = m) (had : 0 < m → ad = ⟨b, o, none⟩) (hcl : cells = (C.drop o).take (m * Shape.size α))
  (hst : St w0 W (Res.row e v xs fe :: Res.es cells ys fy :: Res.bx b C e' :: rs)) (h63 : xs.length + m ≤ maxLen) (hby : (xs.length + m) * bytes ≤ 140737488355328)
  (k : ∀ v' W', St w0 W' (Res.row e v' (xs ++ ys) (fe ++ fy) :: Res.bx b C e' :: rs) → K v' W') :
  Stp P n ⟨d, .call { callee := .builtin .append, args := #[s, x], argTypes := #[t, t] }, ty, pos, af, g⟩ f W Q K := by
 have hE := hst.get 1 rfl
 have hB : W.heap[b]? = some (.cells C.toArray e' (0, 0)) := hst.get 2 rfl
 have hn := hst.nodup
 have p := hst.f1
 have q := p.nodup
 rw [flatMap_cons, nodup_append] at q
 refine mD hT hs hx hm hst.d1 hE.1 ?_ hE.2 q.1 ?_ h63 hby k
 ·intro j u hj
  have z := (gsi_.1 hj).1
  rw [hE.1.len, hm] at z
  have A : 0 < m := Nat.pos_of_ne_zero (fun B => by rw [B] at z; simp at z)
  rw [had A, Addr.add_mid]
  rw [hcl] at hj
  have := bQ hB (o + j) u (sS hj)
  simpa using this
 intro a ha
 refine ⟨fun h => q.2.2 a ha a ?_ rfl, fun h => q.2.2 a ha a ?_ rfl, p.fresh (Res.es cells ys fy) (by simp) a ha⟩
 ·rw [flatMap_cons]; exact mem_append_left _ h
 rw [flatMap_cons]; exact mem_append_right _ h
theorem aM1 {C : List Value} {o N k s : Nat} (h : k ≤ N) : ((C.drop o).take (N * s)).drop (k * s) = (C.drop (o + k * s)).take ((N - k) * s) := by
 rw [drop_take, drop_drop, Nat.sub_mul]
theorem St.es_split {w0 W : World} {rs : List Res} {cells : List Value} {xs : List α} {fe : List Nat} (h : St w0 W (Res.es cells xs fe :: rs)) {k : Nat} (hk : k < xs.length) :
  ∃ f1 f3, St w0 W (Res.es (cells.take (k * Shape.size α)) (xs.take k) f1 :: Res.es (cells.drop ((k + 1) * Shape.size α)) (xs.drop (k + 1)) f3 :: rs) := by
 have hh := h.get 0 rfl
 obtain ⟨f1, g, rfl, s, t⟩ := hh.1.parts' k aE
 obtain ⟨f2, f3, rfl, a, b⟩ := t.parts' 1 (by rw [length_drop]; omega)
 rw [drop_drop, drop_drop, show k * Shape.size α + 1 * Shape.size α = (k + 1) * Shape.size α by rw [Nat.add_mul]] at b
 refine ⟨f1, f3, St.trade (rs1 := [Res.es cells xs (f1 ++ (f2 ++ f3))]) (rs2 := [Res.es (cells.take (k * Shape.size α)) (xs.take k) f1, Res.es (cells.drop ((k + 1) * Shape.size α)) (xs.drop (k + 1)) f3]) h ?_ ?_ ?_⟩
 ·have := h.nodup
  rw [flatMap_cons, nodup_append] at this
  have t : (f1 ++ (f2 ++ f3)).Nodup := this.1
  have a : (f1 ++ f3).Sublist (f1 ++ (f2 ++ f3)) := (List.Sublist.refl _).append (sublist_append_right _ _)
  simpa [Res.es] using a.nodup t
 ·intro c hc; simp [Res.es] at hc ⊢; rcases hc with hc | hc <;> simp [hc]
 intro r hr
 rcases mem_cons.1 hr with rfl | hr
 ·exact ⟨s, fun c hc => hh.2 c (by simp [hc])⟩
 rw [mem_singleton] at hr; subst hr
 exact ⟨b, fun c hc => hh.2 c (by simp [hc])⟩
end

theorem ForgetC {id : Int} {bt : Nat} {tt : TypeId} (hB : (Res.bx bt [I id] tt).holds w) {e : Entry} (hd_ : Shape.C w ds e gp) :
  Calls prog 210 #[.agg ds.toArray, pt_ bt] w fun en w' => en = .returned (.bool (decide (e.run = id))) ∧ St w w' [] := by
 refine bY func210 rfl ntmps210 aZ (wp_seq (aA (sg (aI (cs := ds) rfl (St.start w) ?_)))); intro s t a b
 refine sg (aG (aB (wp_seq (aA ?_))))
 have c := hd_
 obtain ⟨d, rfl, g⟩ := c
 have d : _ = [I e.prio, I e.seq, I e.run, I e.task] := d
 subst d
 refine rn b 5 Ag.nil.put.put.put.put [3] [(3, .bool (decide (e.run = id)))] [qb 0 rfl 2, qr (bQ hB) 0, .o] aD fun f10 s => (aB (wr (bA results210 (s.at 3) ?_)))
 exact ⟨rfl, b.bare⟩
theorem ForgetI {y : Yard} (hc : Shape.C w cs y fp) (id : Int) (hid : I64 id) (hw : y.wt ≤ 1048576) :
  Calls prog 150 #[.agg cs.toArray, I id] w fun e w' => ∃ (cs' : List Value) (fp' : List Nat), e = .returned (.tuple #[.agg cs'.toArray, I (cM y id).2]) ∧ St w w' [Res.own (.agg cs'.toArray) (cM y id).1 fp'] := by
 have hyok : y.ok := by obtain ⟨t, a, c, d, rfl, hok, g, j, rfl⟩ := hc; exact hok
 have n : I64 y.now := hyok.1
 have hysl : y.shelf.length ≤ y.wt := by unfold Yard.wt wtL; omega
 refine bY func150 rfl ntmps150 aZ (wp_seq (aA (sg (aI (cs := cs) rfl (St.start w) ?_)))); intro q t a c
 refine sg (mU (v := I id) rfl rfl c ?_); intro z d g j
 refine sg (aQ cI j ?_); intro A n B D
 refine sg (aG (aB (wp_seq (aA (sg (aV aL rfl rfl (D.get 2 rfl) (Shape.len hc) (sg (bC func108 rfl rfl ((iQ n (aR hc D.below) aE).mono ?_))))))))); rintro _ t ⟨E, a, rfl, c⟩; refine ⟨_, rfl, ?_⟩
 have d := St.call D c
 refine sg (aQ cI d ?_); intro F g j B
 refine sgn (aJ (cs := E) aL (bB (B.get 1 rfl) rfl) rfl rfl B rfl ?_); intro t n
 refine aB (wp_seq (aA (rc n 4 Ag.nil.put.put.put.put.put.put.put.put.put [] [(7, I (bJ y id))] [qw 4 rfl (Shape.len hc), qb 3 rfl 0, qc func98 rfl (fun W s b => pV W (aR hc s.below) id aE)] aD fun a c d g j => (aB (wp_seq (wp_block (wp_seq (aA (rc g 4 d [] [(14, .bool (!(dB y)))] [qw 4 rfl (Shape.len hc), qc func46 rfl (fun W s b => nE W (aR hc s.below) aE), .o] aD fun t n B G D => (aB (bZ (B.at 14) (fun H => ?_) (fun H => ?_))))))))))))
 ·refine wp_seq (aA (sg (aV aL rfl (B.at 6) (G.get 0 rfl) (Shape.len (bB (G.get 1 rfl) rfl)) (sgn (aJ (cs := E) aL (bB (G.f2.get 2 rfl) rfl) (B.at 4) rfl G.f2 rfl ?_))))); intro t a
  refine sg (aG (aB (wr (eH aL rfl results150 (B.at 4) (a.get 0 rfl) (Shape.len (bB (a.get 2 rfl) rfl)) rfl ?_))))
  have hfe : cM y id = (y, 8) := by unfold cM; rw [if_pos (aY H)]
  rw [hfe]
  exact ⟨_, _, rfl, a.f2.d1.d1.d1.d1⟩
 refine wp_seq (aA (rn G 3 B [] [(19, .bool (decide ((bJ y id) < 0)))] [.o] aD fun t J => (aB (aP (J.at 19) (fun c => ?_) (fun c => ?_)))))
 ·refine wp_seq (aA (sg (aV aL rfl (J.at 6) (G.get 0 rfl) (Shape.len (bB (G.get 1 rfl) rfl)) (sgn (aJ (cs := E) aL (bB (G.f2.get 2 rfl) rfl) (J.at 4) rfl G.f2 rfl ?_))))); intro t a
  refine sg (aG (aB (wr (eH aL rfl results150 (J.at 4) (a.get 0 rfl) (Shape.len (bB (a.get 2 rfl) rfl)) rfl ?_))))
  have hfe : cM y id = (y, 10) := sY (aX H) c
  rw [hfe]
  exact ⟨_, _, rfl, a.f2.d1.d1.d1.d1⟩
 refine wp_seq ?_
 have hY := iE (aX H)
 have hra := c
 have K := sN hra
 obtain ⟨r, hr⟩ := K
 have hrk : (bJ y id).toNat < y.runs.length := (gsi_.1 hr).1
 have t := hY.runs
 have d := hY.shelf
 have g : bJ y id = (((bJ y id).toNat : Nat) : Int) := by omega
 refine aA ?_
 have L := hc
 obtain ⟨M, N, a, c, rfl, j, n, B, rfl⟩ := L
 have D : (bJ y id).toNat < y.runs.length := (gsi_.1 hr).1
 have K := eB B (i := (bJ y id).toNat) hr
 obtain ⟨t, d, g, O, P, R, S, T⟩ := K
 have U := S
 obtain ⟨X, a, c, Y, rfl, j, n, Z, rfl⟩ := U
 refine rn G 8 J [] [(23, .bool (decide (r.state = 1)))] [qb 4 rfl 3, qxe P (e := bJ y id) aE, qr R 6, .o] aD fun t a0 => (aB (aP (a0.at 23) (fun d => ?_) (fun d => ?_)))
 ·refine wp_seq (aA (sg (aV aL rfl (a0.at 6) (G.get 0 rfl) (Shape.len (bB (G.get 1 rfl) rfl)) (sgn (aJ (cs := E) aL (bB (G.f2.get 2 rfl) rfl) (a0.at 4) rfl G.f2 rfl ?_))))); intro t a
  refine sg (aG (aB (wr (eH aL rfl results150 (a0.at 4) (a.get 0 rfl) (Shape.len (bB (a.get 2 rfl) rfl)) rfl ?_))))
  have hfe : cM y id = (y, 13) := by rw [kG (aX H) hra hr, if_pos aE]
  rw [hfe]
  exact ⟨_, _, rfl, a.f2.d1.d1.d1.d1⟩
 refine wp_skip (wp_seq (aA ?_))
 have K := eM G.f1
 obtain ⟨b0, c0, e0, t, f0, c, g0⟩ := K
 subst f0
 refine lw a0 [(3, pt_ z), (4, pt_ A), (6, pt_ F), (7, I (bJ y id))] aD fun d => (rn g0 5 d [] [(33, c0), (34, I (bJ y id)), (36, I ((bJ y id) + 1))] [qb 2 rfl 3, qad (bJ y id) 1] aD fun t a => ?_)
 have hdel99 := DeleteRun g0.f1 hrk aE
 rw [show (((bJ y id).toNat : Nat) : Int) = bJ y id by omega] at hdel99
 refine sg (eL func209 rfl (a.at 33) (a.at 34) (a.at 36) (hdel99.mono ?_)); rintro _ c ⟨h0, j0, rfl, d⟩; refine ⟨_, rfl, ?_⟩
 refine sg (aN dG (a.at 6) (sgn (aO (v := h0) aD rfl rfl (Sl.cells (aM (d.f2.get 1 rfl))) (Sl.one (aM (d.f2.get 1 rfl))) d.f2 bH rfl ?_))); intro t c
 refine aB (wp_seq (wp_seq (aA (rn c 4 a.put.put [] [(41, I (y.shelf.length : Int)), (42, I 0)] [qb 0 rfl 2, ql (aM (c.get 2 rfl))] aD fun g j => (aB (wp_block (bF (fun (m : Nat) (f : Nat → Value) (W : World) => ∃ (i : Nat) (d : List Nat), i ≤ y.shelf.length ∧ m = y.shelf.length - i ∧ Ag [(3, pt_ z), (4, pt_ A), (6, pt_ F), (41, I (y.shelf.length : Int)), (42, I (i : Int))] f ∧ St w W ([Res.bx F [I y.now, I y.seq, b0, h0] 34, Res.own (α := List Run) h0 (y.runs.eraseIdx (bJ y id).toNat) j0, Res.own (α := List (List Entry)) b0 (oY id y.shelf i) d, Res.bx A [I 0, I 0, .slice none 0 0, .slice none 0 0] 34, Res.bx z [I id] 3, Res.bx q [I y.now, I y.seq, M, N] 34])) (y.shelf.length - 0) ?_ ?_)))))))
 ·exact ⟨0, e0, Nat.zero_le _, rfl, (j.to aD), (by rw [uB]; exact c)⟩
 intro t a g n
 obtain ⟨i, d, hil, rfl, k0, l0⟩ := n
 have hfl := xP id y.shelf i
 refine wp_seq (aA (sg (bU (k0.at 42) (k0.at 41) (aB (wp_seq (aP rfl (fun B => ?_) (fun B => ?_)))))))
 ·refine wp_skip (wp_seq (wp_block (wp_seq (aA (sg (aH (k0.at 42) (sg (aF (v := I (i : Int)) rfl (aB ?_)))))))))
  have K := dW (xs := y.shelf) (i := i) aE
  obtain ⟨l, hl⟩ := K
  have hla := aC6 (id := id) hl
  have t := kZ (hY.each l (mem_of_getElem? hl))
  have K := St.lendx (α := List Entry) aZ l0.f2 (x := l) hla
  obtain ⟨m0, n0, o0, a, post122, p0, q0, s0, c, d⟩ := K
  have K := d.f1.uncs1
  obtain ⟨t0, v0, w0⟩ := K; subst v0
  refine cK 10 [(none, some 9, .is (Res.own (α := List Entry) t0 l p0)), (some 9, none, .of (ι := Value × List Nat) [54] (fun ⟨x0, y0⟩ => [x0]) (fun ⟨x0, y0⟩ => Res.own (α := List Entry) x0 (l.filter (fun x => !(fun e => decide (e.run = id)) x)) y0))] [(true, .is (.pointer (some ⟨F, 0 + 2, none⟩))), (true, .is (b0)), (true, .is (I (i : Int))), (true, .is (.pointer (some ⟨F, 0 + 2, none⟩))), (true, .is (b0)), (true, .is (I (i : Int))), (true, .is (.pointer (some ⟨m0, o0.length, none⟩))), (true, .is (t0)), (true, .is (.func (.func 210) #[] #[pt_ z])), (false, .ex (fun (x0 : Value) => x0))] mix aD aD aD aD (rs0 := [Res.own (α := List Entry) t0 l p0]) ⟨_, _, rfl, rfl, rfl⟩ w0 w0.below ⟨(fq_ eC (k0.at 6)), (fun f W hst hbl hd hf => aW eF rfl (hd 0 45 rfl rfl) (hst.get 2 rfl) (i := 2) rfl rfl brq), (mq_ (show _ = I (i : Int) from rfl)), (fq_ eC (k0.at 6)), (fun f W hst hbl hd hf => aW eF rfl (hd 3 48 rfl rfl) (hst.get 2 rfl) (i := 2) rfl rfl brq), (mq_ (show _ = I (i : Int) from rfl)), (fun f W hst hbl hd hf => aT eO (hd 4 49 rfl rfl) s0 (hd 5 50 rfl rfl) rfl brq), (fun f W hst hbl hd hf => gR jD rfl (hd 6 51 rfl rfl) (hst.get 0 rfl) (i := 0) rfl rfl brq), (fun f W hst hbl hd hf => gQ nZ (pJ (v := pt_ z) ((hf 3 rfl).trans (k0.at 3)) nZ) brq), ?_, trivial⟩ ?_
  ·intro f W ru oth hu hst hbl hd hf
   obtain ⟨_, _, rfl, rfl, t⟩ := hu
   have t : _ = [] := t
   subst t
   try simp only [cap_, cL] at hst
   refine (bN func189 rfl (hd 7 52 rfl rfl) (hd 8 53 rfl rfl) ((aN3 (capt := [pt_ z]) hst func210 rfl (p := (fun e => decide (e.run = id))) aE (fun a cs_ e_ f_ hs_ hc_ => ForgetC a (hs_.get 5 rfl) hc_)).mono ?_)); rintro _ c ⟨x0, y0, rfl, d⟩; refine ⟨_, rfl, ?_⟩
   exact ⟨⟨x0, rfl⟩, ⟨_, ⟨_, _, rfl, ⟨(x0, y0), (ce rfl rfl), rfl⟩, rfl⟩, d⟩, d.below⟩
  intro g j rs_ hAL_ n q z A
  obtain ⟨_, _, rfl, ⟨⟨x0, y0⟩, a, rfl⟩, t⟩ := hAL_
  have t : _ = [] := t
  subst t
  have c : g 54 = x0 := congrArg (fun l => l.getD 0 undef) a
  try simp only [cap_, cL] at n
  refine sg (aT eO (z 1 46 aZ rfl) s0 (z 2 47 aZ rfl) rfl ?_)
  have d := n.f1
  refine sgn (bS (i := 0) (v := x0) aD rfl c (Sl.cells (aM (d.get 1 rfl))) (Sl.one (aM (d.get 1 rfl))) d rfl bH rfl ?_); intro t a
  refine aB (aA (sg (bO ((A 42 rfl).trans (k0.at 42)) rfl dL (sg (aH (v := I ((i : Int) + 1)) rfl (aB ?_))))))
  have g := a.f1.cs1
  have K := St.give (α := List Entry) g.f2.f1.f2
  obtain ⟨c, j⟩ := K
  exact ⟨_, y.shelf.length - (i + 1), aE, rfl, i + 1, c, aE, rfl, (Ag.cons ((A 3 rfl).trans (k0.at 3)) (Ag.cons ((A 4 rfl).trans (k0.at 4)) (Ag.cons ((A 6 rfl).trans (k0.at 6)) (Ag.cons ((A 41 rfl).trans (k0.at 41)) (Ag.cons rfl Ag.nil))))), (by rw [← xO hl]; exact j.f5.f5.f5.f3.f5.f5)⟩
 refine wp_exit (wp_seq (aA (sg (aS (cs := [I y.now, I y.seq, b0, h0]) aL rfl (k0.at 6) (l0.get 0 rfl) rfl rfl (sgn (aK aD (k0.at 4) rfl (aC rfl (aC rfl (aC (Sl.one (aM (l0.f3.get 3 rfl))) (aC (Sl.one (aM (l0.f3.get 2 rfl))) bE)))) l0.f3 bH rfl ?_)))))); intro t a
 refine sg (aG (aB (wr (eH aL rfl results150 (k0.at 4) (a.get 0 rfl) rfl rfl ?_))))
 have hie : i = y.shelf.length := by omega
 rw [xQ hie] at a
 have c := a.f2
 have d := cH (x := (vA y id (bJ y id).toNat)) c.f3 hyok
 have hfe : cM y id = ((vA y id (bJ y id).toNat), 0) := by rw [kG (aX H) hra hr, if_neg aE]
 rw [hfe]
 exact ⟨_, _, rfl, d.d1.d1.d1.d1⟩
theorem ForgetS {y : Yard} (hc : Shape.C w cs y fp) (id : Int) (hid : I64 id) (hw : y.wt ≤ 1048576) :
  Calls prog 142 #[.agg cs.toArray, I id] w fun e w' => ∃ (cs' : List Value) (fp' : List Nat), e = .returned (.tuple #[.agg cs'.toArray, I (cM y id).2]) ∧ St w w' [Res.own (.agg cs'.toArray) (cM y id).1 fp'] := by
 have hyok : y.ok := by obtain ⟨t, a, c, d, rfl, hok, g, n, rfl⟩ := hc; exact hok
 have p : I64 y.now := hyok.1
 have hysl : y.shelf.length ≤ y.wt := by unfold Yard.wt wtL; omega
 refine bY func142 rfl ntmps142 aZ (wp_seq (aA (sg (aI (cs := cs) rfl (St.start w) ?_)))); intro q t a c
 refine sg (aQ cI c ?_); intro z d g n
 refine sg (aG (aB (wp_seq (aA (sg (aV aL rfl rfl (n.get 1 rfl) (Shape.len hc) (sg (bC func71 rfl rfl ((hX d (aR hc n.below) aE).mono ?_))))))))); rintro _ t ⟨A, a, rfl, c⟩; refine ⟨_, rfl, ?_⟩
 have g := St.call n c
 refine sg (aQ cI g ?_); intro B p D E
 refine sgn (aJ (cs := A) aL (bB (E.get 1 rfl) rfl) rfl rfl E rfl ?_); intro t d
 refine aB (wp_seq (aA (rc d 4 Ag.nil.put.put.put.put.put.put.put.put [] [(7, I (bJ y id))] [qw 3 rfl (Shape.len hc), qc func90 rfl (fun W s b => rT W (aR hc s.below) id aE)] aD fun a c g n p => (aB (wp_seq (wp_block (wp_seq (aA (rc n 4 g [] [(16, .bool (!(dB y)))] [qw 3 rfl (Shape.len hc), qc func42 rfl (fun W s b => nD W (aR hc s.below) aE), .o] aD fun t d D F E => (aB (bZ (D.at 16) (fun G => ?_) (fun G => ?_))))))))))))
 ·refine wp_seq (aA (sg (aV aL rfl (D.at 6) (F.get 0 rfl) (Shape.len (bB (F.get 1 rfl) rfl)) (sgn (aJ (cs := A) aL (bB (F.f2.get 2 rfl) rfl) (D.at 4) rfl F.f2 rfl ?_))))); intro t a
  refine sg (aG (aB (wr (eH aL rfl results142 (D.at 4) (a.get 0 rfl) (Shape.len (bB (a.get 2 rfl) rfl)) rfl ?_))))
  have hfe : cM y id = (y, 8) := by unfold cM; rw [if_pos (aY G)]
  rw [hfe]
  exact ⟨_, _, rfl, a.f2.d1.d1.d1⟩
 refine wp_seq (aA (rn F 3 D [] [(21, .bool (decide ((bJ y id) < 0)))] [.o] aD fun t H => (aB (aP (H.at 21) (fun c => ?_) (fun c => ?_)))))
 ·refine wp_seq (aA (sg (aV aL rfl (H.at 6) (F.get 0 rfl) (Shape.len (bB (F.get 1 rfl) rfl)) (sgn (aJ (cs := A) aL (bB (F.f2.get 2 rfl) rfl) (H.at 4) rfl F.f2 rfl ?_))))); intro t a
  refine sg (aG (aB (wr (eH aL rfl results142 (H.at 4) (a.get 0 rfl) (Shape.len (bB (a.get 2 rfl) rfl)) rfl ?_))))
  have hfe : cM y id = (y, 10) := sY (aX G) c
  rw [hfe]
  exact ⟨_, _, rfl, a.f2.d1.d1.d1⟩
 refine wp_seq ?_
 have hY := iE (aX G)
 have hra := c
 have J := sN hra
 obtain ⟨r, hr⟩ := J
 have hrk : (bJ y id).toNat < y.runs.length := (gsi_.1 hr).1
 have t := hY.runs
 have d := hY.shelf
 have g : bJ y id = (((bJ y id).toNat : Nat) : Int) := by omega
 refine aA ?_
 have K := hc
 obtain ⟨L, M, a, c, rfl, n, p, D, rfl⟩ := K
 have E : (bJ y id).toNat < y.runs.length := (gsi_.1 hr).1
 have J := eB D (i := (bJ y id).toNat) hr
 obtain ⟨t, d, g, N, O, P, R, S⟩ := J
 have T := R
 obtain ⟨U, a, c, X, rfl, n, p, Y, rfl⟩ := T
 refine rn F 8 H [] [(25, .bool (decide (r.state = 1)))] [qb 3 rfl 3, qxe O (e := bJ y id) aE, qr P 6, .o] aD fun t Z => (aB (aP (Z.at 25) (fun d => ?_) (fun d => ?_)))
 ·refine wp_seq (aA (sg (aV aL rfl (Z.at 6) (F.get 0 rfl) (Shape.len (bB (F.get 1 rfl) rfl)) (sgn (aJ (cs := A) aL (bB (F.f2.get 2 rfl) rfl) (Z.at 4) rfl F.f2 rfl ?_))))); intro t a
  refine sg (aG (aB (wr (eH aL rfl results142 (Z.at 4) (a.get 0 rfl) (Shape.len (bB (a.get 2 rfl) rfl)) rfl ?_))))
  have hfe : cM y id = (y, 13) := by rw [kG (aX G) hra hr, if_pos aE]
  rw [hfe]
  exact ⟨_, _, rfl, a.f2.d1.d1.d1⟩
 refine wp_skip (wp_seq ?_)
 have J := eM F.f1
 obtain ⟨a0, t, b0, c, c0, d, e0⟩ := J
 subst c0
 have J := St.ownOpen' e0.f1 aZ aE
 obtain ⟨bD, oD, cD, CD, eD, feD, hvD, hcD, hmD, hlD, g⟩ := J
 have J := g.f1.es_split hrk
 obtain ⟨f0, g0, h0⟩ := J
 subst hvD
 rcases nem ((bJ y id).toNat + 1 < cD) with t | t
 ·refine cK 11 [(none, some 5, .is (Res.es (((CD.drop oD).take (y.runs.length * 8)).take ((bJ y id).toNat * 8)) (y.runs.take (bJ y id).toNat) f0)), (some 0, some 5, .of (ι := Nat) [34] (fun j0 => [(.slice (some ⟨j0, 0, none⟩) 0 0)]) (fun j0 => Res.row (α := Run) 123 (.slice (some ⟨j0, 0, none⟩) 0 0) [] [])), (some 5, none, .of (ι := Value) [39] (fun k0 => [k0]) (fun k0 => Res.row (α := Run) 123 k0 ([] ++ (y.runs.take (bJ y id).toNat)) ([] ++ f0)))] [(false, .ex (fun (j0 : Nat) => (.slice (some ⟨j0, 0, none⟩) 0 0))), (true, .is (.pointer (some ⟨B, 0 + 3, none⟩))), (true, .is (.slice (some ⟨bD, oD, none⟩) y.runs.length cD)), (true, .is (I (bJ y id))), (true, .is (.slice (some ⟨bD, oD, none⟩) (bJ y id).toNat cD)), (false, .ex (fun (k0 : Value) => k0)), (true, .is (.pointer (some ⟨B, 0 + 3, none⟩))), (true, .is (.slice (some ⟨bD, oD, none⟩) y.runs.length cD)), (true, .is (I (bJ y id))), (true, .is (I ((bJ y id) + 1))), (true, .is (.slice (some ⟨bD, oD, none⟩) 0 0))] mix aD aD aD aD (rs0 := [Res.es (((CD.drop oD).take (y.runs.length * 8)).take ((bJ y id).toNat * 8)) (y.runs.take (bJ y id).toNat) f0]) ⟨_, _, rfl, rfl, rfl⟩ h0 h0.below ⟨?_, (fq_ dG (Z.at 6)), (fun f W hst hbl hd hf => aW fR rfl (hd 1 35 rfl rfl) (hst.get 3 rfl) (i := 3) rfl rfl brq), (mq_ (Z.at 7)), (fun f W hst hbl hd hf => rI (h := (bJ y id).toNat) dS (hd 2 36 rfl rfl) (hd 3 37 rfl rfl) aE aE aE brq), ?_, (fq_ dG (Z.at 6)), (fun f W hst hbl hd hf => aW fR rfl (hd 6 40 rfl rfl) (hst.get 3 rfl) (i := 3) rfl rfl brq), (mq_ (Z.at 7)), (fun f W hst hbl hd hf => bO (hd 8 42 rfl rfl) rfl dL brq), (fun f W hst hbl hd hf => aO1 (l := (bJ y id).toNat + 1) dS (hd 7 41 rfl rfl) (hd 9 43 rfl rfl) aE aE aE brq), trivial⟩ ?_
  ·intro f W ru oth hu hst hbl hd hf
   have l0 : ru = [] := hu
   subst l0
   try simp only [cap_, cL] at hst
   refine (aU (cs := []) (e := 123) dJ (bT iK _) hst ?_); intro j0 t a c
   have c := c.row_empty (α := Run)
   exact ⟨⟨j0, rfl⟩, ⟨_, ⟨_, _, rfl, ⟨j0, (ce rfl rfl), rfl⟩, rfl⟩, c⟩, c.below⟩
  ·intro f W ru oth hu hst hbl hd hf
   obtain ⟨_, _, rfl, rfl, _, _, rfl, ⟨j0, t, rfl⟩, l0⟩ := hu
   have l0 : _ = [] := l0
   subst l0
   have a : f 34 = (.slice (some ⟨j0, 0, none⟩) 0 0) := congrArg (fun l => l.getD 0 undef) t
   try simp only [cap_, cL] at hst
   have c := hst.f3
   refine (kT (α := Run) (m := (bJ y id).toNat) (o := oD) iK a (hd 4 38 rfl rfl) (by rw [length_take]; omega) (fun _ => rfl) (by rw [take_take]; congr 1; have hz : (bJ y id).toNat * 8 ≤ y.runs.length * 8 := Nat.mul_le_mul_right _ aE; exact (Nat.min_eq_left hz).symm ▸ rfl) c.f1.f2 (by simp only [length_append, length_take, length_nil]; unfold maxLen; omega) (by simp only [length_append, length_take, length_nil]; omega) ?_); intro k0 t a
   exact ⟨⟨k0, rfl⟩, ⟨_, ⟨_, _, rfl, ⟨k0, (ce rfl rfl), rfl⟩, rfl⟩, a.f6.f6.f6.f6.f5.f6.f6⟩, a.f6.f6.f6.f6.f5.f6.f6.below⟩
  intro d g rs_ hAL_ c n p A
  obtain ⟨_, _, rfl, ⟨k0, D, rfl⟩, l0⟩ := hAL_
  have l0 : _ = [] := l0
  subst l0
  have t : d 39 = k0 := congrArg (fun l => l.getD 0 undef) D
  try simp only [cap_, cL] at c
  have a := c.f2
  refine sg (kT (α := Run) (m := y.runs.length - ((bJ y id).toNat + 1)) (o := oD + ((bJ y id).toNat + 1) * 8) iK t (Eq.trans (p 10 44 aZ rfl) (by rw [show y.runs.length - ((bJ y id).toNat + 1) = 0 by omega])) (by rw [length_drop]) (fun hz => by omega) (aM1 aE) a.f2.f2 (by simp only [length_append, length_take, length_nil]; unfold maxLen; omega) (by simp only [length_append, length_take, length_nil]; omega) ?_); intro m0 t c
  refine sg (aN dG ((A 6 rfl).trans (Z.at 6)) (sgn (aO (v := m0) aD rfl rfl (Sl.cells (bX (c.f3.get 1 rfl))) (Sl.one (bX (c.f3.get 1 rfl))) c.f3 bH rfl ?_))); intro a d
  refine aB (wp_seq (wp_seq (aA (sg (aG (aB (wp_block (bF (fun (m : Nat) (f : Nat → Value) (W : World) => ∃ (i : Nat) (t : List Nat), i ≤ y.shelf.length ∧ m = y.shelf.length - i ∧ Ag [(1, I id), (4, pt_ z), (6, pt_ B), (8, I (i : Int))] f ∧ St w W ([Res.bx B [I y.now, I y.seq, a0, m0] 34, Res.row (α := Run) 123 m0 (([] ++ (y.runs.take (bJ y id).toNat)) ++ (y.runs.drop ((bJ y id).toNat + 1))) (([] ++ f0) ++ g0), Res.bx bD CD eD, Res.own (α := List (List Entry)) a0 (oY id y.shelf i) t, Res.bx z [I 0, I 0, .slice none 0 0, .slice none 0 0] 34, Res.bx q [I y.now, I y.seq, L, M] 34])) (y.shelf.length - 0) ?_ ?_))))))))
  ·exact ⟨0, b0, Nat.zero_le _, rfl, (Ag.cons ((A 1 rfl).trans (Z.at 1)) (Ag.cons ((A 4 rfl).trans (Z.at 4)) (Ag.cons ((A 6 rfl).trans (Z.at 6)) (Ag.cons rfl Ag.nil)))), (by rw [uB]; exact d)⟩
  intro a c g n
  obtain ⟨i, t, hil, rfl, p, n0⟩ := n
  have hfl := xP id y.shelf i
  refine wp_seq (wp_seq (aA (rn n0 5 p [] [(51, .bool (decide ((i : Int) < ((oY id y.shelf i).length : Int))))] [qb 0 rfl 2, ql (aM (n0.get 3 rfl)), .o] aD fun a o0 => (aB (aP (o0.at 51) (fun t => ?_) (fun t => ?_))))))
  ·refine wp_skip (wp_seq (wp_block (wp_seq ?_)))
   have J := dW (xs := y.shelf) (i := i) aE
   obtain ⟨l, hl⟩ := J
   have hla := aC6 (id := id) hl
   have p0 := kZ (hY.each l (mem_of_getElem? hl))
   have J := St.lendx (α := List Entry) aZ n0.f3 (x := l) hla
   obtain ⟨q0, s0, t0, t, post221, v0, w0, x0, a, c⟩ := J
   have J := c.f1.uncs1
   obtain ⟨y0, z0, A0⟩ := J; subst z0
   refine aA (sg (aU (cs := []) (e := 131) dJ (bT cG _) A0 ?_)); intro d g n p
   have p := p.row_empty (α := Entry)
   refine sg (aF (v := (.slice (some ⟨d, 0, none⟩) 0 0)) rfl (aB (wp_seq (wp_seq (aA (sg (aG (aB (wp_block (bF (fun (m : Nat) (f : Nat → Value) (W : World) => ∃ (j : Nat) (B0 : Value), j ≤ l.length ∧ m = l.length - j ∧ Ag [(1, I id), (4, pt_ z), (6, pt_ B), (8, I (i : Int)), (9, B0), (10, I (j : Int))] f ∧ St w W ([Res.row (α := Entry) 131 B0 (flE id (l.take j)) [], Res.own (α := List Entry) y0 l v0, Res.bx q0 (t0 ++ [y0] ++ post221) s0, Res.rest (α := (List Entry)) a0 q0 t0 post221 (oY id y.shelf i) i w0, Res.bx B [I y.now, I y.seq, a0, m0] 34, Res.row (α := Run) 123 m0 (([] ++ (y.runs.take (bJ y id).toNat)) ++ (y.runs.drop ((bJ y id).toNat + 1))) (([] ++ f0) ++ g0), Res.bx bD CD eD, Res.bx z [I 0, I 0, .slice none 0 0, .slice none 0 0] 34, Res.bx q [I y.now, I y.seq, L, M] 34])) (l.length - 0) ?_ ?_))))))))))
   ·exact ⟨0, (.slice (some ⟨d, 0, none⟩) 0 0), Nat.zero_le _, rfl, (o0.put.put.put.to aD), p⟩
   intro t a c g
   obtain ⟨j, B0, hjl, rfl, n, C0⟩ := g
   have hfn := aC5 id (l.take j)
   have htl := length_take_le j l
   refine wp_seq (wp_seq (aA (rn C0 8 n [] [(62, .bool (decide ((j : Int) < (l.length : Int))))] [qb 4 rfl 2, qx x0, qp 2 rfl 0, ql (aM (C0.get 1 rfl)), .o] aD fun t D0 => (aB (aP (D0.at 62) (fun a => ?_) (fun a => ?_))))))
   ·refine wp_skip (wp_seq (wp_block (wp_seq ?_)))
    have J := dW (xs := l) (i := j) aE
    obtain ⟨e, he⟩ := J
    refine aA ?_
    have E0 : j < l.length := (gsi_.1 he).1
    have J := eB (aM (C0.get 1 rfl)) (i := j) he
    obtain ⟨t, a, c, d, F0, G0, H0, g⟩ := J
    have J0 := H0
    obtain ⟨K0, rfl, n⟩ := J0
    have K0 : _ = [I e.prio, I e.seq, I e.run, I e.task] := K0
    subst K0
    refine rn C0 11 D0 [] [(75, .bool (!decide (e.run = id)))] [qb 4 rfl 2, qx x0, qp 2 rfl 0, qx F0, qn G0 2, .o] aD fun t a => (aB (cQ (a.at 75) (fun c => ?_) (fun c => ?_)))
    ·refine aA (rn C0 9 a [] [(76, B0), (84, .agg #[I e.prio, I e.seq, I e.run, I e.task])] [qb 4 rfl 2, qx x0, qp 2 rfl 0, qx F0, qn G0 0] aD fun d g => ?_)
     have hoke : e.ok := (H0).2.2
     refine sg (aU (cs := [I e.prio, I e.seq, I e.run, I e.task]) (e := 131) (bR (g.at 84) dJ) (bG cG _ _ rfl rfl aZ) C0 ?_); intro t c d n
     refine sg (cA (ys := [(⟨e.prio, e.seq, e.run, e.task⟩ : Entry)]) cG (g.at 76) rfl rfl n.f1 (Elems.one1 (show Shape.C _ [I e.prio, I e.seq, I e.run, I e.task] e [] from ⟨rfl, rfl, hoke⟩)) (by unfold maxLen; omega) aE ?_); intro t c d
     refine sg (aF (v := t) rfl (aB (aA (rn d 3 g.put.put.put [10] [(10, I ((j : Int) + 1))] [qad (j : Int) 1] aD fun n p => (aB ?_)))))
     exact ⟨_, l.length - (j + 1), aE, rfl, j + 1, t, aE, rfl, (p.to aD), (by rw [flE_t he aE]; exact d)⟩
    refine wp_skip (aA (rn C0 3 a [10] [(10, I ((j : Int) + 1))] [qad (j : Int) 1] aD fun c g => (aB ?_)))
    exact ⟨_, l.length - (j + 1), aE, rfl, j + 1, B0, aE, rfl, (g.to aD), (by rw [flE_f he aE]; exact C0)⟩
   refine wp_exit ?_
   have hje : j = l.length := by omega
   rw [hje, take_length] at C0
   have J := C0.shut
   obtain ⟨t, a⟩ := J
   refine aA (rn a 5 D0 [] [(90, B0), (91, .pointer (some ⟨q0, t0.length, none⟩))] [qb 4 rfl 2, qx x0] aD fun c d => (sgn (bS (i := 0) (v := B0) aD (d.at 91) (d.at 90) (Sl.cells (aM (a.f2.get 1 rfl))) (Sl.one (aM (a.f2.get 1 rfl))) a.f2 rfl bH rfl ?_))); intro t g
   refine aB (aA (rn g 3 d [8] [(8, I ((i : Int) + 1))] [qad (i : Int) 1] aD fun c n => (aB ?_)))
   have p := g.f1.cs1
   have J := St.give (α := List Entry) p.f3.f1.f2
   obtain ⟨A, D⟩ := J
   exact ⟨_, y.shelf.length - (i + 1), aE, rfl, i + 1, A, aE, rfl, (n.to aD), (by rw [← xO hl]; exact D.f6.f6.f2.f6.f6.f6.d6)⟩
  refine wp_exit (wp_seq (aA (sg (aS (cs := [I y.now, I y.seq, a0, m0]) aL rfl (o0.at 6) (n0.get 0 rfl) rfl rfl (sgn (aK aD (o0.at 4) rfl (aC rfl (aC rfl (aC (Sl.one (aM (n0.f4.get 4 rfl))) (aC (Sl.one (bX (n0.f4.get 2 rfl))) bE)))) n0.f4 bH rfl ?_)))))); intro t a
  refine sg (aG (aB (wr (eH aL rfl results142 (o0.at 4) (a.get 0 rfl) rfl rfl ?_))))
  have hie : i = y.shelf.length := by omega
  rw [xQ hie] at a
  have hera : ([] ++ (y.runs.take (bJ y id).toNat)) ++ (y.runs.drop ((bJ y id).toNat + 1)) = y.runs.eraseIdx (bJ y id).toNat := by rw [nil_append, eraseIdx_eq_take_drop_succ]
  rw [hera] at a
  have t := a.f2
  have J := t.shut
  obtain ⟨c, d⟩ := J
  have g := cH (x := (vA y id (bJ y id).toNat)) d.f4 hyok
  have hfe : cM y id = ((vA y id (bJ y id).toNat), 0) := by rw [kG (aX G) hra hr, if_neg aE]
  rw [hfe]
  exact ⟨_, _, rfl, g.d1.d1.d1.d1⟩
 refine cK 11 [(none, some 5, .is (Res.es (((CD.drop oD).take (y.runs.length * 8)).take ((bJ y id).toNat * 8)) (y.runs.take (bJ y id).toNat) f0)), (some 0, some 5, .of (ι := Nat) [34] (fun L0 => [(.slice (some ⟨L0, 0, none⟩) 0 0)]) (fun L0 => Res.row (α := Run) 123 (.slice (some ⟨L0, 0, none⟩) 0 0) [] [])), (some 5, none, .of (ι := Value) [39] (fun M0 => [M0]) (fun M0 => Res.row (α := Run) 123 M0 ([] ++ (y.runs.take (bJ y id).toNat)) ([] ++ f0)))] [(false, .ex (fun (L0 : Nat) => (.slice (some ⟨L0, 0, none⟩) 0 0))), (true, .is (.pointer (some ⟨B, 0 + 3, none⟩))), (true, .is (.slice (some ⟨bD, oD, none⟩) y.runs.length cD)), (true, .is (I (bJ y id))), (true, .is (.slice (some ⟨bD, oD, none⟩) (bJ y id).toNat cD)), (false, .ex (fun (M0 : Value) => M0)), (true, .is (.pointer (some ⟨B, 0 + 3, none⟩))), (true, .is (.slice (some ⟨bD, oD, none⟩) y.runs.length cD)), (true, .is (I (bJ y id))), (true, .is (I ((bJ y id) + 1))), (true, .is (.slice (some ⟨bD, oD + ((bJ y id).toNat + 1) * 8, none⟩) (y.runs.length - ((bJ y id).toNat + 1)) (cD - ((bJ y id).toNat + 1))))] mix aD aD aD aD (rs0 := [Res.es (((CD.drop oD).take (y.runs.length * 8)).take ((bJ y id).toNat * 8)) (y.runs.take (bJ y id).toNat) f0]) ⟨_, _, rfl, rfl, rfl⟩ h0 h0.below ⟨?_, (fq_ dG (Z.at 6)), (fun f W hst hbl hd hf => aW fR rfl (hd 1 35 rfl rfl) (hst.get 3 rfl) (i := 3) rfl rfl brq), (mq_ (Z.at 7)), (fun f W hst hbl hd hf => rI (h := (bJ y id).toNat) dS (hd 2 36 rfl rfl) (hd 3 37 rfl rfl) aE aE aE brq), ?_, (fq_ dG (Z.at 6)), (fun f W hst hbl hd hf => aW fR rfl (hd 6 40 rfl rfl) (hst.get 3 rfl) (i := 3) rfl rfl brq), (mq_ (Z.at 7)), (fun f W hst hbl hd hf => bO (hd 8 42 rfl rfl) rfl dL brq), (fun f W hst hbl hd hf => nF (l := (bJ y id).toNat + 1) dS (hd 7 41 rfl rfl) (hd 9 43 rfl rfl) aE aE aE brq), trivial⟩ ?_
 ·intro f W ru oth hu hst hbl hd hf
  have l0 : ru = [] := hu
  subst l0
  try simp only [cap_, cL] at hst
  refine (aU (cs := []) (e := 123) dJ (bT iK _) hst ?_); intro L0 t a c
  have c := c.row_empty (α := Run)
  exact ⟨⟨L0, rfl⟩, ⟨_, ⟨_, _, rfl, ⟨L0, (ce rfl rfl), rfl⟩, rfl⟩, c⟩, c.below⟩
 ·intro f W ru oth hu hst hbl hd hf
  obtain ⟨_, _, rfl, rfl, _, _, rfl, ⟨L0, t, rfl⟩, l0⟩ := hu
  have l0 : _ = [] := l0
  subst l0
  have a : f 34 = (.slice (some ⟨L0, 0, none⟩) 0 0) := congrArg (fun l => l.getD 0 undef) t
  try simp only [cap_, cL] at hst
  have c := hst.f3
  refine (kT (α := Run) (m := (bJ y id).toNat) (o := oD) iK a (hd 4 38 rfl rfl) (by rw [length_take]; omega) (fun _ => rfl) (by rw [take_take]; congr 1; have hz : (bJ y id).toNat * 8 ≤ y.runs.length * 8 := Nat.mul_le_mul_right _ aE; exact (Nat.min_eq_left hz).symm ▸ rfl) c.f1.f2 (by simp only [length_append, length_take, length_nil]; unfold maxLen; omega) (by simp only [length_append, length_take, length_nil]; omega) ?_); intro M0 t a
  exact ⟨⟨M0, rfl⟩, ⟨_, ⟨_, _, rfl, ⟨M0, (ce rfl rfl), rfl⟩, rfl⟩, a.f6.f6.f6.f6.f5.f6.f6⟩, a.f6.f6.f6.f6.f5.f6.f6.below⟩
 intro d g rs_ hAL_ c n p A
 obtain ⟨_, _, rfl, ⟨M0, D, rfl⟩, l0⟩ := hAL_
 have l0 : _ = [] := l0
 subst l0
 have t : d 39 = M0 := congrArg (fun l => l.getD 0 undef) D
 try simp only [cap_, cL] at c
 have a := c.f2
 refine sg (kT (α := Run) (m := y.runs.length - ((bJ y id).toNat + 1)) (o := oD + ((bJ y id).toNat + 1) * 8) iK t (p 10 44 aZ rfl) (by rw [length_drop]) (fun _ => rfl) (aM1 aE) a.f2.f2 (by simp only [length_append, length_take, length_nil]; unfold maxLen; omega) (by simp only [length_append, length_take, length_nil]; omega) ?_); intro N0 c d
 refine sg (aN dG ((A 6 rfl).trans (Z.at 6)) (sgn (aO (v := N0) aD rfl rfl (Sl.cells (bX (d.f3.get 1 rfl))) (Sl.one (bX (d.f3.get 1 rfl))) d.f3 bH rfl ?_))); intro t a
 refine aB (wp_seq (wp_seq (aA (sg (aG (aB (wp_block (bF (fun (m : Nat) (f : Nat → Value) (W : World) => ∃ (i : Nat) (c : List Nat), i ≤ y.shelf.length ∧ m = y.shelf.length - i ∧ Ag [(1, I id), (4, pt_ z), (6, pt_ B), (8, I (i : Int))] f ∧ St w W ([Res.bx B [I y.now, I y.seq, a0, N0] 34, Res.row (α := Run) 123 N0 (([] ++ (y.runs.take (bJ y id).toNat)) ++ (y.runs.drop ((bJ y id).toNat + 1))) (([] ++ f0) ++ g0), Res.bx bD CD eD, Res.own (α := List (List Entry)) a0 (oY id y.shelf i) c, Res.bx z [I 0, I 0, .slice none 0 0, .slice none 0 0] 34, Res.bx q [I y.now, I y.seq, L, M] 34])) (y.shelf.length - 0) ?_ ?_))))))))
 ·exact ⟨0, b0, Nat.zero_le _, rfl, (Ag.cons ((A 1 rfl).trans (Z.at 1)) (Ag.cons ((A 4 rfl).trans (Z.at 4)) (Ag.cons ((A 6 rfl).trans (Z.at 6)) (Ag.cons rfl Ag.nil)))), (by rw [uB]; exact a)⟩
 intro t d g n
 obtain ⟨i, c, hil, rfl, p, O0⟩ := n
 have hfl := xP id y.shelf i
 refine wp_seq (wp_seq (aA (rn O0 5 p [] [(51, .bool (decide ((i : Int) < ((oY id y.shelf i).length : Int))))] [qb 0 rfl 2, ql (aM (O0.get 3 rfl)), .o] aD fun t P0 => (aB (aP (P0.at 51) (fun a => ?_) (fun a => ?_))))))
 ·refine wp_skip (wp_seq (wp_block (wp_seq ?_)))
  have J := dW (xs := y.shelf) (i := i) aE
  obtain ⟨l, hl⟩ := J
  have hla := aC6 (id := id) hl
  have p0 := kZ (hY.each l (mem_of_getElem? hl))
  have J := St.lendx (α := List Entry) aZ O0.f3 (x := l) hla
  obtain ⟨Q0, R0, S0, t, post390, T0, U0, V0, a, c⟩ := J
  have J := c.f1.uncs1
  obtain ⟨W0, X0, Y0⟩ := J; subst X0
  refine aA (sg (aU (cs := []) (e := 131) dJ (bT cG _) Y0 ?_)); intro d g n p
  have p := p.row_empty (α := Entry)
  refine sg (aF (v := (.slice (some ⟨d, 0, none⟩) 0 0)) rfl (aB (wp_seq (wp_seq (aA (sg (aG (aB (wp_block (bF (fun (m : Nat) (f : Nat → Value) (W : World) => ∃ (j : Nat) (Z0 : Value), j ≤ l.length ∧ m = l.length - j ∧ Ag [(1, I id), (4, pt_ z), (6, pt_ B), (8, I (i : Int)), (9, Z0), (10, I (j : Int))] f ∧ St w W ([Res.row (α := Entry) 131 Z0 (flE id (l.take j)) [], Res.own (α := List Entry) W0 l T0, Res.bx Q0 (S0 ++ [W0] ++ post390) R0, Res.rest (α := (List Entry)) a0 Q0 S0 post390 (oY id y.shelf i) i U0, Res.bx B [I y.now, I y.seq, a0, N0] 34, Res.row (α := Run) 123 N0 (([] ++ (y.runs.take (bJ y id).toNat)) ++ (y.runs.drop ((bJ y id).toNat + 1))) (([] ++ f0) ++ g0), Res.bx bD CD eD, Res.bx z [I 0, I 0, .slice none 0 0, .slice none 0 0] 34, Res.bx q [I y.now, I y.seq, L, M] 34])) (l.length - 0) ?_ ?_))))))))))
  ·exact ⟨0, (.slice (some ⟨d, 0, none⟩) 0 0), Nat.zero_le _, rfl, (P0.put.put.put.to aD), p⟩
  intro t a c g
  obtain ⟨j, Z0, hjl, rfl, n, a1⟩ := g
  have hfn := aC5 id (l.take j)
  have htl := length_take_le j l
  refine wp_seq (wp_seq (aA (rn a1 8 n [] [(62, .bool (decide ((j : Int) < (l.length : Int))))] [qb 4 rfl 2, qx V0, qp 2 rfl 0, ql (aM (a1.get 1 rfl)), .o] aD fun t b1 => (aB (aP (b1.at 62) (fun a => ?_) (fun a => ?_))))))
  ·refine wp_skip (wp_seq (wp_block (wp_seq ?_)))
   have J := dW (xs := l) (i := j) aE
   obtain ⟨e, he⟩ := J
   refine aA ?_
   have E0 : j < l.length := (gsi_.1 he).1
   have J := eB (aM (a1.get 1 rfl)) (i := j) he
   obtain ⟨t, a, c, d, c1, e1, g1, g⟩ := J
   have h1 := g1
   obtain ⟨j1, rfl, n⟩ := h1
   have j1 : _ = [I e.prio, I e.seq, I e.run, I e.task] := j1
   subst j1
   refine rn a1 11 b1 [] [(75, .bool (!decide (e.run = id)))] [qb 4 rfl 2, qx V0, qp 2 rfl 0, qx c1, qn e1 2, .o] aD fun t a => (aB (cQ (a.at 75) (fun c => ?_) (fun c => ?_)))
   ·refine aA (rn a1 9 a [] [(76, Z0), (84, .agg #[I e.prio, I e.seq, I e.run, I e.task])] [qb 4 rfl 2, qx V0, qp 2 rfl 0, qx c1, qn e1 0] aD fun d g => ?_)
    have hoke : e.ok := (g1).2.2
    refine sg (aU (cs := [I e.prio, I e.seq, I e.run, I e.task]) (e := 131) (bR (g.at 84) dJ) (bG cG _ _ rfl rfl aZ) a1 ?_); intro t c d n
    refine sg (cA (ys := [(⟨e.prio, e.seq, e.run, e.task⟩ : Entry)]) cG (g.at 76) rfl rfl n.f1 (Elems.one1 (show Shape.C _ [I e.prio, I e.seq, I e.run, I e.task] e [] from ⟨rfl, rfl, hoke⟩)) (by unfold maxLen; omega) aE ?_); intro t c d
    refine sg (aF (v := t) rfl (aB (aA (rn d 3 g.put.put.put [10] [(10, I ((j : Int) + 1))] [qad (j : Int) 1] aD fun n p => (aB ?_)))))
    exact ⟨_, l.length - (j + 1), aE, rfl, j + 1, t, aE, rfl, (p.to aD), (by rw [flE_t he aE]; exact d)⟩
   refine wp_skip (aA (rn a1 3 a [10] [(10, I ((j : Int) + 1))] [qad (j : Int) 1] aD fun c g => (aB ?_)))
   exact ⟨_, l.length - (j + 1), aE, rfl, j + 1, Z0, aE, rfl, (g.to aD), (by rw [flE_f he aE]; exact a1)⟩
  refine wp_exit ?_
  have hje : j = l.length := by omega
  rw [hje, take_length] at a1
  have J := a1.shut
  obtain ⟨t, a⟩ := J
  refine aA (rn a 5 b1 [] [(90, Z0), (91, .pointer (some ⟨Q0, S0.length, none⟩))] [qb 4 rfl 2, qx V0] aD fun c d => (sgn (bS (i := 0) (v := Z0) aD (d.at 91) (d.at 90) (Sl.cells (aM (a.f2.get 1 rfl))) (Sl.one (aM (a.f2.get 1 rfl))) a.f2 rfl bH rfl ?_))); intro t g
  refine aB (aA (rn g 3 d [8] [(8, I ((i : Int) + 1))] [qad (i : Int) 1] aD fun c n => (aB ?_)))
  have p := g.f1.cs1
  have J := St.give (α := List Entry) p.f3.f1.f2
  obtain ⟨q, z⟩ := J
  exact ⟨_, y.shelf.length - (i + 1), aE, rfl, i + 1, q, aE, rfl, (n.to aD), (by rw [← xO hl]; exact z.f6.f6.f2.f6.f6.f6.d6)⟩
 refine wp_exit (wp_seq (aA (sg (aS (cs := [I y.now, I y.seq, a0, N0]) aL rfl (P0.at 6) (O0.get 0 rfl) rfl rfl (sgn (aK aD (P0.at 4) rfl (aC rfl (aC rfl (aC (Sl.one (aM (O0.f4.get 4 rfl))) (aC (Sl.one (bX (O0.f4.get 2 rfl))) bE)))) O0.f4 bH rfl ?_)))))); intro t a
 refine sg (aG (aB (wr (eH aL rfl results142 (P0.at 4) (a.get 0 rfl) rfl rfl ?_))))
 have hie : i = y.shelf.length := by omega
 rw [xQ hie] at a
 have hera : ([] ++ (y.runs.take (bJ y id).toNat)) ++ (y.runs.drop ((bJ y id).toNat + 1)) = y.runs.eraseIdx (bJ y id).toNat := by rw [nil_append, eraseIdx_eq_take_drop_succ]
 rw [hera] at a
 have t := a.f2
 have J := t.shut
 obtain ⟨c, d⟩ := J
 have g := cH (x := (vA y id (bJ y id).toNat)) d.f4 hyok
 have hfe : cM y id = ((vA y id (bJ y id).toNat), 0) := by rw [kG (aX G) hra hr, if_neg aE]
 rw [hfe]
 exact ⟨_, _, rfl, g.d1.d1.d1.d1⟩
def gN (c : Int) : Reply := ⟨c, 0, 0, 0⟩
noncomputable def doD (y : Yard) (d : Deed) : Yard × Reply :=
 if fC d = false then (y, gN 5) else if d.kind = 1 then ((bV y d.run d.plan).1, gN (bV y d.run d.plan).2) else if d.kind = 2 then eW y d.worker d.draw else if d.kind = 3 then (hQ y d.run d.task d.try_, gN (fY y d.run d.task d.try_))
 else if d.kind = 4 then (oW y d.run d.task d.try_, gN (fY y d.run d.task d.try_)) else if d.kind = 5 then ((eS y).1, gN (eS y).2) else if d.kind = 6 then ((cO y d.run).1, gN (cO y d.run).2)
 else if d.kind = 7 then ((cM y d.run).1, gN (cM y d.run).2) else (eU y, gN (if dB y = true then 0 else 8))
theorem tH {c : Int} (h : -100 ≤ c ∧ c ≤ 100) : (gN c).ok := by simp only [gN, Reply.ok, I64]; omega
theorem tD {d : Deed} (h : fC d = true) : d.plan.edges.length ≤ 31 := by
 unfold fC at h
 simp only [Bool.and_eq_true, decide_eq_true_eq] at h
 exact h.1.1.2
theorem qZ (y : Yard) (id : Int) (p : Plan) : -100 ≤ (bV y id p).2 ∧ (bV y id p).2 ≤ 100 := by
 have := pf_rng p
 unfold bV
 repeat' split
 all_goals first | (simp only; omega) | (show -100 ≤ bM p ∧ bM p ≤ 100; omega)
theorem vW (y : Yard) : -100 ≤ (eS y).2 ∧ (eS y).2 ≤ 100 := by
 unfold eS
 repeat' split
 all_goals (simp only; omega)
theorem rE (y : Yard) (id : Int) : -100 ≤ (cO y id).2 ∧ (cO y id).2 ≤ 100 := by
 unfold cO
 repeat' split
 all_goals (simp only; omega)
theorem rC (y : Yard) (id : Int) : -100 ≤ (cM y id).2 ∧ (cM y id).2 ≤ 100 := by
 unfold cM
 repeat' split
 all_goals (simp only; omega)

theorem DoI {y : Yard} (hc : Shape.C w cs y fp) {d : Deed} (hd : Shape.C w ds d gp) (hw : y.wt ≤ 1048576) :
  Calls prog 77 #[.agg cs.toArray, .agg ds.toArray] w fun e w' => ∃ (cs' : List Value) (fp' : List Nat), e = .returned (.tuple #[.agg cs'.toArray, .agg #[I (doD y d).2.code, I (doD y d).2.run, I (doD y d).2.task, I (doD y d).2.try_]]) ∧ (doD y d).2.ok ∧ St w w' [Res.own (.agg cs'.toArray) (doD y d).1 fp'] := by
 have hdok : d.ok := by obtain ⟨t, a, rfl, hok, c, rfl⟩ := hd; exact hok
 have g := hdok
 simp only [Deed.ok, Plan.ok] at g
 have hyok : y.ok := by obtain ⟨t, j, a, n, rfl, hok, c, p, rfl⟩ := hc; exact hok
 refine bY func77 rfl ntmps77 aZ (wp_seq (aA (sg (aI (cs := cs) rfl (St.start w) ?_)))); intro q z A B
 refine sg (aI (cs := ds) rfl B ?_); intro D t a j
 refine sg (aQ cI j ?_); intro E c n p
 refine sg (aQ kA p ?_); intro F G H J
 refine aB (wp_seq (wp_seq (aA (rc J 3 Ag.nil.put.put.put.put.put.put [] [(10, .bool (!(fC d)))] [qw 2 rfl (Shape.len hd), qc func145 rfl (fun W s b => DeedOkI W (aR hd s.below)), .o] aD fun t a K c j => (aB (bZ (K.at 10) (fun n => ?_) (fun n => ?_)))))))
 ·refine wp_seq (aA (sg (aV aL rfl (K.at 2) (c.get 3 rfl) (Shape.len hc) (sg (bC func108 rfl rfl ((iQ a (aR hc c.below) aE).mono ?_)))))); rintro _ p ⟨t, z, rfl, A⟩; refine ⟨_, rfl, ?_⟩
  have j := St.call c A
  refine sg (dD (vs := [(0, I 5)]) (cs := [I 5, I 0, I 0, I 0]) (bR (v := I 5) rfl dJ) aD (sgn (aJ (cs := t) aL (bB (j.f2.get 1 rfl) rfl) (K.at 4) rfl j.f2 rfl ?_))); intro a p
  refine sgn (aK aD (K.at 5) rfl (aC rfl (aC rfl (aC rfl (aC rfl bE)))) p.f2 bH rfl ?_); intro t z
  refine aB (wr (mW aL rfl fV rfl results77 (K.at 4) (z.get 1 rfl) (Shape.len (bB (z.get 2 rfl) rfl)) (K.at 5) (z.get 0 rfl) rfl ?_))
  have hfe : doD y d = (y, gN 5) := by unfold doD; rw [if_pos (aY n)]
  rw [hfe]
  exact ⟨_, _, rfl, (tH aE), z.f2.d1.d1.d1.d1⟩
 refine wp_skip (wp_seq ?_)
 have hdk : fC d = true := (aX n)
 have t := tD hdk
 have hpw : d.plan.wt ≤ 1048576 := by unfold Plan.wt; omega
 refine aA (sg (aQ cI c ?_)); intro L a j p
 refine aB (wp_seq (aA (sg (aQ kA p ?_)))); intro M N z O
 refine aB (wp_seq (wp_seq (aA ?_)))
 have P := hd
 obtain ⟨t, n, rfl, A, B, rfl⟩ := P
 refine sg (aN nQ (K.at 3) (sg (aW dA rfl rfl (O.get 4 rfl) (i := 0) rfl rfl (aB (vH (fun (f : Nat → Value) (W : World) => ∃ (csJ : List Value) (fpJ : List Nat) (cJ : Int), (doD y d).2 = gN cJ ∧ (-100 ≤ cJ ∧ cJ ≤ 100) ∧ Ag [(4, pt_ E), (5, pt_ F), (6, pt_ L), (7, pt_ M)] f ∧ St w W ([Res.own (α := Yard) (.agg csJ.toArray) (doD y d).1 fpJ, Res.bx M [I cJ, I 0, I 0, I 0] 75, Res.bx L csJ 34, Res.bx F [I 0, I 0, I 0, I 0] 75, Res.bx E [I 0, I 0, .slice none 0 0, .slice none 0 0] 34, Res.bx D [I d.kind, I d.run, I d.plan.prio, I d.plan.most, I d.plan.wait, I d.plan.tasks, t, I d.task, I d.try_, I d.worker, I d.draw] 108, Res.bx q cs 34])) ?_ (fun a c j => ?_))))))
 ·refine wp_block (wp_seq (aA (sg (dC rfl rfl (sg (aF (v := .bool (decide (d.kind = 1))) rfl (aB (aP rfl (fun n => ?_) (fun n => ?_)))))))))
  ·refine aA (rn O 5 K.put.put.put.put.put.put [] [(25, .agg cs.toArray), (27, I d.run), (29, .agg #[I d.plan.prio, I d.plan.most, I d.plan.wait, I d.plan.tasks, t])] [qw 5 rfl (Shape.len hc), qb 4 rfl 1, qb 4 rfl 2] aD fun a c => (sg (eL func146 rfl (c.at 25) (c.at 27) (c.at 29) ((SubmitI N (aR hc O.below) d.run (show Shape.C _ [I d.plan.prio, I d.plan.most, I d.plan.wait, I d.plan.tasks, t] d.plan _ from ⟨_, _, rfl, fF, (B.below O.below), rfl⟩) aE aE).mono ?_)))); rintro _ a ⟨p, z, rfl, A⟩; refine ⟨_, rfl, ?_⟩
   have G := St.call O A
   refine lw c.put [(4, pt_ E), (5, pt_ F), (6, pt_ L), (7, pt_ M), (30, .tuple #[.agg p.toArray, I (bV y d.run d.plan).2])] aD fun B => (rn G 3 B [] [(31, .agg p.toArray), (32, I (bV y d.run d.plan).2)] [] aD fun a H => (sgn (aJ (cs := p) aL (bB (G.f2.get 1 rfl) rfl) (H.at 6) (H.at 31) G.f2 rfl ?_))); intro c A
   refine sg (aN jV (H.at 7) (sgn (aO (v := I (bV y d.run d.plan).2) aD rfl (H.at 32) rfl rfl A.f2 bH rfl ?_))); intro a B
   refine aB ?_
   have hfe : doD y d = ((bV y d.run d.plan).1, gN (bV y d.run d.plan).2) := by unfold doD; rw [if_neg (by rw [hdk]; decide), if_pos n]
   exact ⟨_, rfl, p, z, (bV y d.run d.plan).2, (by rw [hfe]), (qZ _ _ _), (H.put.to aD), (by rw [hfe]; exact B.f6.f6.f6.f6.f5.f5.f6)⟩
  refine wp_seq (aA (sg (dC rfl rfl (sg (aF (v := .bool (decide (d.kind = 2))) rfl (aB (aP rfl (fun a => ?_) (fun a => ?_))))))))
  ·refine wp_seq (aA (lw K.put.put.put.put.put.put.put.put [(2, pt_ q), (3, pt_ D), (4, pt_ E), (5, pt_ F)] aD fun c => (rn O 5 c [] [(36, .agg cs.toArray), (38, I d.worker), (40, I d.draw)] [qw 5 rfl (Shape.len hc), qb 4 rfl 9, qb 4 rfl 10] aD fun p z => (sg (eL func69 rfl (z.at 36) (z.at 38) (z.at 40) ((PollI N (aR hc O.below) d.worker d.draw aE dL).mono ?_)))))); rintro _ A ⟨B, G, rfl, hokf104, c⟩; refine ⟨_, rfl, ?_⟩
   have H := St.call O c
   refine sg (fS rfl rfl (sg (fS rfl rfl (sgn (aJ (cs := B) aL (bB (H.f4.get 1 rfl) rfl) (z.at 4) rfl H.f4 rfl ?_))))); intro p J
   refine sgn (aK aD (z.at 5) rfl (aC rfl (aC rfl (aC rfl (aC rfl bE)))) J.f4 bH rfl ?_); intro c p
   refine aB (wr (mW aL rfl fV rfl results77 (z.at 4) (p.get 1 rfl) (Shape.len (bB (p.get 2 rfl) rfl)) (z.at 5) (p.get 0 rfl) rfl ?_))
   have hfe : doD y d = eW y d.worker d.draw := by unfold doD; rw [if_neg (by rw [hdk]; decide), if_neg n, if_pos a]
   rw [hfe]
   exact ⟨_, _, rfl, hokf104, p.f2.d1.d1.d1.d1.d1.d1⟩
  refine wp_seq (aA (sg (dC rfl rfl (sg (aF (v := .bool (decide (d.kind = 3))) rfl (aB (aP rfl (fun c => ?_) (fun c => ?_))))))))
  ·refine aA (lw K.put.put.put.put.put.put.put.put.put.put [(2, pt_ q), (3, pt_ D), (4, pt_ E), (5, pt_ F), (6, pt_ L), (7, pt_ M)] aD fun p => (rn O 7 p [] [(47, .agg cs.toArray), (49, I d.run), (51, I d.task), (53, I d.try_)] [qw 5 rfl (Shape.len hc), qb 4 rfl 1, qb 4 rfl 7, qb 4 rfl 8] aD fun z A => (sg (qC func68 rfl (A.at 47) (A.at 49) (A.at 51) (A.at 53) ((CompleteI N (aR hc O.below) d.run d.task d.try_ aE).mono ?_))))); rintro _ p ⟨B, G, rfl, H⟩; refine ⟨_, rfl, ?_⟩
   have J := St.call O H
   refine rn J 3 A.put [] [(55, .agg B.toArray), (56, I (fY y d.run d.task d.try_))] [] aD fun z P => (sgn (aJ (cs := B) aL (bB (J.f2.get 1 rfl) rfl) (P.at 6) (P.at 55) J.f2 rfl ?_)); intro p R
   refine sg (aN jV (P.at 7) (sgn (aO (v := I (fY y d.run d.task d.try_)) aD rfl (P.at 56) rfl rfl R.f2 bH rfl ?_))); intro z A
   refine aB ?_
   have hfe : doD y d = ((hQ y d.run d.task d.try_), gN (fY y d.run d.task d.try_)) := by unfold doD; rw [if_neg (by rw [hdk]; decide), if_neg n, if_neg a, if_pos c]
   exact ⟨_, rfl, B, G, fY y d.run d.task d.try_, (by rw [hfe]), (by have := tK y d.run d.task d.try_; omega), (P.put.to aD), (by rw [hfe]; exact A.f6.f6.f6.f6.f5.f5.f6)⟩
  refine wp_seq (aA (sg (dC rfl rfl (sg (aF (v := .bool (decide (d.kind = 4))) rfl (aB (aP rfl (fun p => ?_) (fun p => ?_))))))))
  ·refine aA (lw K.put.put.put.put.put.put.put.put.put.put.put.put [(2, pt_ q), (3, pt_ D), (4, pt_ E), (5, pt_ F), (6, pt_ L), (7, pt_ M)] aD fun z => (rn O 7 z [] [(61, .agg cs.toArray), (63, I d.run), (65, I d.task), (67, I d.try_)] [qw 5 rfl (Shape.len hc), qb 4 rfl 1, qb 4 rfl 7, qb 4 rfl 8] aD fun A B => (sg (qC func147 rfl (B.at 61) (B.at 63) (B.at 65) (B.at 67) ((FailI N (aR hc O.below) d.run d.task d.try_ aE).mono ?_))))); rintro _ z ⟨G, H, rfl, J⟩; refine ⟨_, rfl, ?_⟩
   have P := St.call O J
   refine rn P 3 B.put [] [(69, .agg G.toArray), (70, I (fY y d.run d.task d.try_))] [] aD fun A R => (sgn (aJ (cs := G) aL (bB (P.f2.get 1 rfl) rfl) (R.at 6) (R.at 69) P.f2 rfl ?_)); intro z S
   refine sg (aN jV (R.at 7) (sgn (aO (v := I (fY y d.run d.task d.try_)) aD rfl (R.at 70) rfl rfl S.f2 bH rfl ?_))); intro A B
   refine aB ?_
   have hfe : doD y d = ((oW y d.run d.task d.try_), gN (fY y d.run d.task d.try_)) := by unfold doD; rw [if_neg (by rw [hdk]; decide), if_neg n, if_neg a, if_neg c, if_pos p]
   exact ⟨_, rfl, G, H, fY y d.run d.task d.try_, (by rw [hfe]), (by have := tK y d.run d.task d.try_; omega), (R.put.to aD), (by rw [hfe]; exact B.f6.f6.f6.f6.f5.f5.f6)⟩
  refine wp_seq (aA (sg (dC rfl rfl (sg (aF (v := .bool (decide (d.kind = 5))) rfl (aB (aP rfl (fun z => ?_) (fun z => ?_))))))))
  ·refine aA (sg (aV aL rfl (K.at 2) (O.get 5 rfl) (Shape.len hc) (sg (bC func148 rfl rfl ((TickI N (aR hc O.below) aE).mono ?_))))); rintro _ A ⟨B, G, rfl, H⟩; refine ⟨_, rfl, ?_⟩
   have J := St.call O H
   refine lw K.put.put.put.put.put.put.put.put.put.put.put.put.put.put.put.put [(4, pt_ E), (5, pt_ F), (6, pt_ L), (7, pt_ M), (76, .tuple #[.agg B.toArray, I (eS y).2])] aD fun P => (rn J 3 P [] [(77, .agg B.toArray), (78, I (eS y).2)] [] aD fun A R => (sgn (aJ (cs := B) aL (bB (J.f2.get 1 rfl) rfl) (R.at 6) (R.at 77) J.f2 rfl ?_))); intro H S
   refine sg (aN jV (R.at 7) (sgn (aO (v := I (eS y).2) aD rfl (R.at 78) rfl rfl S.f2 bH rfl ?_))); intro A P
   refine aB ?_
   have hfe : doD y d = ((eS y).1, gN (eS y).2) := by unfold doD; rw [if_neg (by rw [hdk]; decide), if_neg n, if_neg a, if_neg c, if_neg p, if_pos z]
   exact ⟨_, rfl, B, G, (eS y).2, (by rw [hfe]), (vW _), (R.put.to aD), (by rw [hfe]; exact P.f6.f6.f6.f6.f5.f5.f6)⟩
  refine wp_seq (aA (sg (dC rfl rfl (sg (aF (v := .bool (decide (d.kind = 6))) rfl (aB (aP rfl (fun A => ?_) (fun A => ?_))))))))
  ·refine aA (lw K.put.put.put.put.put.put.put.put.put.put.put.put.put.put.put.put [(2, pt_ q), (3, pt_ D), (4, pt_ E), (5, pt_ F), (6, pt_ L), (7, pt_ M)] aD fun B => (rn O 3 B [] [(83, .agg cs.toArray), (85, I d.run)] [qw 5 rfl (Shape.len hc), qb 4 rfl 1] aD fun G H => (sg (bN func149 rfl (H.at 83) (H.at 85) ((CancelI N (aR hc O.below) d.run aE).mono ?_))))); rintro _ J ⟨P, R, rfl, S⟩; refine ⟨_, rfl, ?_⟩
   have T := St.call O S
   refine rn T 3 H.put [] [(87, .agg P.toArray), (88, I (cO y d.run).2)] [] aD fun B G => (sgn (aJ (cs := P) aL (bB (T.f2.get 1 rfl) rfl) (G.at 6) (G.at 87) T.f2 rfl ?_)); intro J U
   refine sg (aN jV (G.at 7) (sgn (aO (v := I (cO y d.run).2) aD rfl (G.at 88) rfl rfl U.f2 bH rfl ?_))); intro B H
   refine aB ?_
   have hfe : doD y d = ((cO y d.run).1, gN (cO y d.run).2) := by unfold doD; rw [if_neg (by rw [hdk]; decide), if_neg n, if_neg a, if_neg c, if_neg p, if_neg z, if_pos A]
   exact ⟨_, rfl, P, R, (cO y d.run).2, (by rw [hfe]), (rE _ _), (G.put.to aD), (by rw [hfe]; exact H.f6.f6.f6.f6.f5.f5.f6)⟩
  refine wp_seq (aA (sg (dC rfl rfl (sg (aF (v := .bool (decide (d.kind = 7))) rfl (aB (aP rfl (fun B => ?_) (fun B => ?_))))))))
  ·refine aA (lw K.put.put.put.put.put.put.put.put.put.put.put.put.put.put.put.put.put.put [(2, pt_ q), (3, pt_ D), (4, pt_ E), (5, pt_ F), (6, pt_ L), (7, pt_ M)] aD fun G => (rn O 3 G [] [(93, .agg cs.toArray), (95, I d.run)] [qw 5 rfl (Shape.len hc), qb 4 rfl 1] aD fun H J => (sg (bN func150 rfl (J.at 93) (J.at 95) ((ForgetI N (aR hc O.below) d.run g.2.1 aE).mono ?_))))); rintro _ P ⟨R, S, rfl, T⟩; refine ⟨_, rfl, ?_⟩
   have G := St.call O T
   refine rn G 3 J.put [] [(97, .agg R.toArray), (98, I (cM y d.run).2)] [] aD fun H U => (sgn (aJ (cs := R) aL (bB (G.f2.get 1 rfl) rfl) (U.at 6) (U.at 97) G.f2 rfl ?_)); intro g P
   refine sg (aN jV (U.at 7) (sgn (aO (v := I (cM y d.run).2) aD rfl (U.at 98) rfl rfl P.f2 bH rfl ?_))); intro H J
   refine aB ?_
   have hfe : doD y d = ((cM y d.run).1, gN (cM y d.run).2) := by unfold doD; rw [if_neg (by rw [hdk]; decide), if_neg n, if_neg a, if_neg c, if_neg p, if_neg z, if_neg A, if_pos B]
   exact ⟨_, rfl, R, S, (cM y d.run).2, (by rw [hfe]), (rC _ _), (U.put.to aD), (by rw [hfe]; exact J.f6.f6.f6.f6.f5.f5.f6)⟩
  refine wp_seq (aA (sg (aV aL rfl (K.at 2) (O.get 5 rfl) (Shape.len hc) (sg (bC func54 rfl rfl ((RestartI N (aR hc O.below) aE).mono ?_)))))); rintro _ g ⟨G, H, rfl, P⟩; refine ⟨_, rfl, ?_⟩
  have R := St.call O P
  refine sgn (aJ (cs := G) aL (bB (R.f2.get 1 rfl) rfl) rfl rfl R.f2 rfl ?_); intro J S
  refine aB (wp_seq (aA (lw K.put.put.put.put.put.put.put.put.put.put.put.put.put.put.put.put.put.put.put.put [(2, pt_ q), (4, pt_ E), (5, pt_ F), (6, pt_ L), (7, pt_ M)] aD fun g => (rc S 3 g [] [(20, .bool (!(dB y)))] [qw 6 rfl (Shape.len hc), qc func46 rfl (fun W s b => nE W (aR hc s.below) aE), .o] aD fun J K N O P => (aB (bZ (N.at 20) (fun R => ?_) (fun R => ?_)))))))
  ·refine aA (sg (aN jV (N.at 7) (sgn (aO (v := I 8) aD rfl rfl rfl rfl O.f2 bH rfl ?_)))); intro g S
   refine aB ?_
   have hfe : doD y d = ((eU y), gN 8) := by unfold doD; rw [if_neg (by rw [hdk]; decide), if_neg n, if_neg a, if_neg c, if_neg p, if_neg z, if_neg A, if_neg B, if_neg (by rw [(aY R)]; decide)]
   exact ⟨_, rfl, G, H, 8, (by rw [hfe]), aE, (N.put.to aD), (by rw [hfe]; exact S.f6.f6.f6.f6.f5.f5.f6)⟩
  refine wp_skip ?_
  have hfe : doD y d = ((eU y), gN 0) := by unfold doD; rw [if_neg (by rw [hdk]; decide), if_neg n, if_neg a, if_neg c, if_neg p, if_neg z, if_neg A, if_neg B, if_pos (aX R)]
  exact ⟨_, rfl, G, H, 0, (by rw [hfe]), aE, (N.to aD), (by rw [hfe]; exact O.f6.f6.f6.f6.f4.f6.f6)⟩
 obtain ⟨csJ, fpJ, cJ, X, hJr, Y, g⟩ := j
 refine wp_seq (cK 3 [(none, some 2, .is (Res.bx E [I 0, I 0, .slice none 0 0, .slice none 0 0] 34)), (some 2, none, .is (Res.bx E csJ 34))] [(true, .is (.agg csJ.toArray)), (true, .is (.agg #[I cJ, I 0, I 0, I 0])), (false, .is undef)] mix aD aD aD aD (rs0 := [Res.bx E [I 0, I 0, .slice none 0 0, .slice none 0 0] 34]) ⟨_, _, rfl, rfl, rfl⟩ g.f4 g.f4.below ⟨(fun f W hst hbl hd hf => aV aL rfl ((hf 6 rfl).trans (Y.at 6)) (hst.get 2 rfl) (Shape.len (bB (hst.get 0 rfl) rfl)) brq), (fun f W hst hbl hd hf => aS (cs := [I cJ, I 0, I 0, I 0]) fV rfl ((hf 7 rfl).trans (Y.at 7)) (hst.get 1 rfl) rfl rfl brq), ?_, trivial⟩ ?_)
 ·intro f W ru oth hu hst hbl hd hf
  obtain ⟨_, _, rfl, rfl, t⟩ := hu
  have t : _ = [] := t
  subst t
  try simp only [cap_, cL] at hst
  refine (aJ (cs := csJ) aL (bB (hst.get 1 rfl) rfl) ((hf 4 rfl).trans (Y.at 4)) (hd 0 100 rfl rfl) hst rfl ?_); intro a c
  exact ⟨rfl, ⟨_, ⟨_, _, rfl, rfl, rfl⟩, c⟩, c.below⟩
 intro g j rs_ hAL_ n p q z
 obtain ⟨_, _, rfl, rfl, t⟩ := hAL_
 have t : _ = [] := t
 subst t
 try simp only [cap_, cL] at n
 have a := n.f4
 refine sgn (aK aD ((z 5 rfl).trans (Y.at 5)) (q 1 101 aZ rfl) (aC rfl (aC rfl (aC rfl (aC rfl bE)))) a bH rfl ?_); intro t c
 refine aB (wr (mW aL rfl fV rfl results77 ((z 4 rfl).trans (Y.at 4)) (c.get 1 rfl) (Shape.len (bB (c.get 2 rfl) rfl)) ((z 5 rfl).trans (Y.at 5)) (c.get 0 rfl) rfl ?_))
 rw [X]
 exact ⟨_, _, rfl, tH hJr, c.f2.d1.d1.d1.d1.d1.d1⟩
theorem DoS {y : Yard} (hc : Shape.C w cs y fp) {d : Deed} (hd : Shape.C w ds d gp) (hw : y.wt ≤ 1048576) :
  Calls prog 73 #[.agg cs.toArray, .agg ds.toArray] w fun e w' => ∃ (cs' : List Value) (fp' : List Nat), e = .returned (.tuple #[.agg cs'.toArray, .agg #[I (doD y d).2.code, I (doD y d).2.run, I (doD y d).2.task, I (doD y d).2.try_]]) ∧ (doD y d).2.ok ∧ St w w' [Res.own (.agg cs'.toArray) (doD y d).1 fp'] := by
 have hdok : d.ok := by obtain ⟨t, a, rfl, hok, c, rfl⟩ := hd; exact hok
 have g := hdok
 simp only [Deed.ok, Plan.ok] at g
 have hyok : y.ok := by obtain ⟨t, j, a, n, rfl, hok, c, p, rfl⟩ := hc; exact hok
 refine bY func73 rfl ntmps73 aZ (wp_seq (aA (sg (aI (cs := cs) rfl (St.start w) ?_)))); intro q z A B
 refine sg (aI (cs := ds) rfl B ?_); intro D t a j
 refine sg (aQ cI j ?_); intro E c n p
 refine sg (aQ kA p ?_); intro F G H J
 refine aB (wp_seq (aA (sg (aG (aB (wp_seq (aA (sg (dD (vs := []) (cs := [I 0, I 0, .slice none 0 0, .slice none 0 0]) dJ aD (sg (aQ cI J ?_))))))))))); intro K t a c
 refine sgn (aK aD rfl rfl (aC rfl (aC rfl (aC rfl (aC rfl bE)))) c bH rfl ?_); intro j n
 refine aB (wp_seq (wp_seq (aA (rc n 3 Ag.nil.put.put.put.put.put.put.put.put.put [] [(11, .bool (!(fC d)))] [qw 3 rfl (Shape.len hd), qc func137 rfl (fun W s b => DeedOkS W (aR hd s.below)), .o] aD fun t L M N a => (aB (bZ (M.at 11) (fun c => ?_) (fun c => ?_)))))))
 ·refine wp_seq (aA (sg (aV aL rfl (M.at 2) (N.get 4 rfl) (Shape.len hc) (sg (bC func71 rfl rfl ((hX L (aR hc N.below) aE).mono ?_)))))); rintro _ j ⟨t, n, rfl, p⟩; refine ⟨_, rfl, ?_⟩
  have a := St.call N p
  refine sg (dD (vs := [(0, I 5)]) (cs := [I 5, I 0, I 0, I 0]) (bR (v := I 5) rfl dJ) aD (sgn (aJ (cs := t) aL (bB (a.f3.get 1 rfl) rfl) (M.at 4) rfl a.f3 rfl ?_))); intro j n
  refine sgn (aK aD (M.at 5) rfl (aC rfl (aC rfl (aC rfl (aC rfl bE)))) n.f3 bH rfl ?_); intro t p
  refine aB (wr (mW aL rfl fV rfl results73 (M.at 4) (p.get 1 rfl) (Shape.len (bB (p.get 2 rfl) rfl)) (M.at 5) (p.get 0 rfl) rfl ?_))
  have hfe : doD y d = (y, gN 5) := by unfold doD; rw [if_pos (aY c)]
  rw [hfe]
  exact ⟨_, _, rfl, (tH aE), p.f2.d1.d1.d1.d1.d1⟩
 refine wp_skip (wp_seq (wp_seq ?_))
 have hdk : fC d = true := (aX c)
 have t := tD hdk
 have hpw : d.plan.wt ≤ 1048576 := by unfold Plan.wt; omega
 refine aA ?_
 have O := hd
 obtain ⟨a, j, rfl, n, z, rfl⟩ := O
 refine sg (aN nQ (M.at 3) (sg (aW dA rfl rfl (N.get 3 rfl) (i := 0) rfl rfl (aB (vH (fun (f : Nat → Value) (W : World) => ∃ (csJ : List Value) (fpJ : List Nat) (cJ : Int), (doD y d).2 = gN cJ ∧ (-100 ≤ cJ ∧ cJ ≤ 100) ∧ Ag [(4, pt_ E), (5, pt_ F), (6, I cJ), (7, pt_ K)] f ∧ St w W ([Res.own (α := Yard) (.agg csJ.toArray) (doD y d).1 fpJ, Res.bx K csJ 34, Res.bx F [I 0, I 0, I 0, I 0] 75, Res.bx E [I 0, I 0, .slice none 0 0, .slice none 0 0] 34, Res.bx D [I d.kind, I d.run, I d.plan.prio, I d.plan.most, I d.plan.wait, I d.plan.tasks, a, I d.task, I d.try_, I d.worker, I d.draw] 108, Res.bx q cs 34])) ?_ (fun t c j => ?_))))))
 ·refine wp_block (wp_seq (aA (sg (dC rfl rfl (sg (aF (v := .bool (decide (d.kind = 1))) rfl (aB (aP rfl (fun n => ?_) (fun n => ?_)))))))))
  ·refine aA (rn N 5 M.put.put.put.put [] [(25, .agg cs.toArray), (27, I d.run), (29, .agg #[I d.plan.prio, I d.plan.most, I d.plan.wait, I d.plan.tasks, a])] [qw 4 rfl (Shape.len hc), qb 3 rfl 1, qb 3 rfl 2] aD fun t c => (sg (eL func138 rfl (c.at 25) (c.at 27) (c.at 29) ((SubmitS L (aR hc N.below) d.run (show Shape.C _ [I d.plan.prio, I d.plan.most, I d.plan.wait, I d.plan.tasks, a] d.plan _ from ⟨_, _, rfl, fF, (z.below N.below), rfl⟩) aE aE).mono ?_)))); rintro _ t ⟨p, A, rfl, B⟩; refine ⟨_, rfl, ?_⟩
   have G := St.call N B
   refine lw c.put [(4, pt_ E), (5, pt_ F), (7, pt_ K), (30, .tuple #[.agg p.toArray, I (bV y d.run d.plan).2])] aD fun a => (rn G 3 a [] [(31, .agg p.toArray), (32, I (bV y d.run d.plan).2)] [] aD fun t z => (sgn (aJ (cs := p) aL (bB (G.f1.get 1 rfl) rfl) (z.at 7) (z.at 31) G.f1 rfl ?_))); intro c B
   refine sg (aF (z.at 32) (aB ?_))
   have hfe : doD y d = ((bV y d.run d.plan).1, gN (bV y d.run d.plan).2) := by unfold doD; rw [if_neg (by rw [hdk]; decide), if_pos n]
   exact ⟨_, rfl, p, A, (bV y d.run d.plan).2, (by rw [hfe]), (qZ _ _ _), (z.put.to aD), (by rw [hfe]; exact B.f5.f5.f5.f5.f4.f5)⟩
  refine wp_seq (aA (sg (dC rfl rfl (sg (aF (v := .bool (decide (d.kind = 2))) rfl (aB (aP rfl (fun t => ?_) (fun t => ?_))))))))
  ·refine wp_seq (aA (lw M.put.put.put.put.put.put [(2, pt_ q), (3, pt_ D), (4, pt_ E), (5, pt_ F)] aD fun a => (rn N 5 a [] [(35, .agg cs.toArray), (37, I d.worker), (39, I d.draw)] [qw 4 rfl (Shape.len hc), qb 3 rfl 9, qb 3 rfl 10] aD fun c p => (sg (eL func66 rfl (p.at 35) (p.at 37) (p.at 39) ((PollS L (aR hc N.below) d.worker d.draw aE dL).mono ?_)))))); rintro _ z ⟨A, B, rfl, hokf100, a⟩; refine ⟨_, rfl, ?_⟩
   have G := St.call N a
   refine sg (fS rfl rfl (sg (fS rfl rfl (sgn (aJ (cs := A) aL (bB (G.f3.get 1 rfl) rfl) (p.at 4) rfl G.f3 rfl ?_))))); intro c H
   refine sgn (aK aD (p.at 5) rfl (aC rfl (aC rfl (aC rfl (aC rfl bE)))) H.f3 bH rfl ?_); intro a c
   refine aB (wr (mW aL rfl fV rfl results73 (p.at 4) (c.get 1 rfl) (Shape.len (bB (c.get 2 rfl) rfl)) (p.at 5) (c.get 0 rfl) rfl ?_))
   have hfe : doD y d = eW y d.worker d.draw := by unfold doD; rw [if_neg (by rw [hdk]; decide), if_neg n, if_pos t]
   rw [hfe]
   exact ⟨_, _, rfl, hokf100, c.f2.d1.d1.d1.d1.d1⟩
  refine wp_seq (aA (sg (dC rfl rfl (sg (aF (v := .bool (decide (d.kind = 3))) rfl (aB (aP rfl (fun a => ?_) (fun a => ?_))))))))
  ·refine aA (lw M.put.put.put.put.put.put.put.put [(2, pt_ q), (3, pt_ D), (4, pt_ E), (5, pt_ F), (7, pt_ K)] aD fun c => (rn N 7 c [] [(46, .agg cs.toArray), (48, I d.run), (50, I d.task), (52, I d.try_)] [qw 4 rfl (Shape.len hc), qb 3 rfl 1, qb 3 rfl 7, qb 3 rfl 8] aD fun p z => (sg (qC func65 rfl (z.at 46) (z.at 48) (z.at 50) (z.at 52) ((CompleteS L (aR hc N.below) d.run d.task d.try_ aE).mono ?_))))); rintro _ c ⟨A, B, rfl, G⟩; refine ⟨_, rfl, ?_⟩
   have H := St.call N G
   refine rn H 3 z.put [] [(54, .agg A.toArray), (55, I (fY y d.run d.task d.try_))] [] aD fun p J => (sgn (aJ (cs := A) aL (bB (H.f1.get 1 rfl) rfl) (J.at 7) (J.at 54) H.f1 rfl ?_)); intro c O
   refine sg (aF (J.at 55) (aB ?_))
   have hfe : doD y d = ((hQ y d.run d.task d.try_), gN (fY y d.run d.task d.try_)) := by unfold doD; rw [if_neg (by rw [hdk]; decide), if_neg n, if_neg t, if_pos a]
   exact ⟨_, rfl, A, B, fY y d.run d.task d.try_, (by rw [hfe]), (by have := tK y d.run d.task d.try_; omega), (J.put.to aD), (by rw [hfe]; exact O.f5.f5.f5.f5.f4.f5)⟩
  refine wp_seq (aA (sg (dC rfl rfl (sg (aF (v := .bool (decide (d.kind = 4))) rfl (aB (aP rfl (fun c => ?_) (fun c => ?_))))))))
  ·refine aA (lw M.put.put.put.put.put.put.put.put.put.put [(2, pt_ q), (3, pt_ D), (4, pt_ E), (5, pt_ F), (7, pt_ K)] aD fun p => (rn N 7 p [] [(59, .agg cs.toArray), (61, I d.run), (63, I d.task), (65, I d.try_)] [qw 4 rfl (Shape.len hc), qb 3 rfl 1, qb 3 rfl 7, qb 3 rfl 8] aD fun z A => (sg (qC func139 rfl (A.at 59) (A.at 61) (A.at 63) (A.at 65) ((FailS L (aR hc N.below) d.run d.task d.try_ aE).mono ?_))))); rintro _ p ⟨B, G, rfl, H⟩; refine ⟨_, rfl, ?_⟩
   have J := St.call N H
   refine rn J 3 A.put [] [(67, .agg B.toArray), (68, I (fY y d.run d.task d.try_))] [] aD fun z O => (sgn (aJ (cs := B) aL (bB (J.f1.get 1 rfl) rfl) (O.at 7) (O.at 67) J.f1 rfl ?_)); intro p P
   refine sg (aF (O.at 68) (aB ?_))
   have hfe : doD y d = ((oW y d.run d.task d.try_), gN (fY y d.run d.task d.try_)) := by unfold doD; rw [if_neg (by rw [hdk]; decide), if_neg n, if_neg t, if_neg a, if_pos c]
   exact ⟨_, rfl, B, G, fY y d.run d.task d.try_, (by rw [hfe]), (by have := tK y d.run d.task d.try_; omega), (O.put.to aD), (by rw [hfe]; exact P.f5.f5.f5.f5.f4.f5)⟩
  refine wp_seq (aA (sg (dC rfl rfl (sg (aF (v := .bool (decide (d.kind = 5))) rfl (aB (aP rfl (fun p => ?_) (fun p => ?_))))))))
  ·refine aA (sg (aV aL rfl (M.at 2) (N.get 4 rfl) (Shape.len hc) (sg (bC func140 rfl rfl ((TickS L (aR hc N.below) aE).mono ?_))))); rintro _ z ⟨A, B, rfl, G⟩; refine ⟨_, rfl, ?_⟩
   have H := St.call N G
   refine lw M.put.put.put.put.put.put.put.put.put.put.put.put.put.put [(4, pt_ E), (5, pt_ F), (7, pt_ K), (73, .tuple #[.agg A.toArray, I (eS y).2])] aD fun J => (rn H 3 J [] [(74, .agg A.toArray), (75, I (eS y).2)] [] aD fun z O => (sgn (aJ (cs := A) aL (bB (H.f1.get 1 rfl) rfl) (O.at 7) (O.at 74) H.f1 rfl ?_))); intro G P
   refine sg (aF (O.at 75) (aB ?_))
   have hfe : doD y d = ((eS y).1, gN (eS y).2) := by unfold doD; rw [if_neg (by rw [hdk]; decide), if_neg n, if_neg t, if_neg a, if_neg c, if_pos p]
   exact ⟨_, rfl, A, B, (eS y).2, (by rw [hfe]), (vW _), (O.put.to aD), (by rw [hfe]; exact P.f5.f5.f5.f5.f4.f5)⟩
  refine wp_seq (aA (sg (dC rfl rfl (sg (aF (v := .bool (decide (d.kind = 6))) rfl (aB (aP rfl (fun z => ?_) (fun z => ?_))))))))
  ·refine aA (lw M.put.put.put.put.put.put.put.put.put.put.put.put.put.put [(2, pt_ q), (3, pt_ D), (4, pt_ E), (5, pt_ F), (7, pt_ K)] aD fun A => (rn N 3 A [] [(79, .agg cs.toArray), (81, I d.run)] [qw 4 rfl (Shape.len hc), qb 3 rfl 1] aD fun B G => (sg (bN func141 rfl (G.at 79) (G.at 81) ((CancelS L (aR hc N.below) d.run aE).mono ?_))))); rintro _ H ⟨J, O, rfl, P⟩; refine ⟨_, rfl, ?_⟩
   have R := St.call N P
   refine rn R 3 G.put [] [(83, .agg J.toArray), (84, I (cO y d.run).2)] [] aD fun A B => (sgn (aJ (cs := J) aL (bB (R.f1.get 1 rfl) rfl) (B.at 7) (B.at 83) R.f1 rfl ?_)); intro H S
   refine sg (aF (B.at 84) (aB ?_))
   have hfe : doD y d = ((cO y d.run).1, gN (cO y d.run).2) := by unfold doD; rw [if_neg (by rw [hdk]; decide), if_neg n, if_neg t, if_neg a, if_neg c, if_neg p, if_pos z]
   exact ⟨_, rfl, J, O, (cO y d.run).2, (by rw [hfe]), (rE _ _), (B.put.to aD), (by rw [hfe]; exact S.f5.f5.f5.f5.f4.f5)⟩
  refine wp_seq (aA (sg (dC rfl rfl (sg (aF (v := .bool (decide (d.kind = 7))) rfl (aB (aP rfl (fun A => ?_) (fun A => ?_))))))))
  ·refine aA (lw M.put.put.put.put.put.put.put.put.put.put.put.put.put.put.put.put [(2, pt_ q), (3, pt_ D), (4, pt_ E), (5, pt_ F), (7, pt_ K)] aD fun B => (rn N 3 B [] [(88, .agg cs.toArray), (90, I d.run)] [qw 4 rfl (Shape.len hc), qb 3 rfl 1] aD fun G H => (sg (bN func142 rfl (H.at 88) (H.at 90) ((ForgetS L (aR hc N.below) d.run g.2.1 aE).mono ?_))))); rintro _ D ⟨J, O, rfl, P⟩; refine ⟨_, rfl, ?_⟩
   have B := St.call N P
   refine rn B 3 H.put [] [(92, .agg J.toArray), (93, I (cM y d.run).2)] [] aD fun G R => (sgn (aJ (cs := J) aL (bB (B.f1.get 1 rfl) rfl) (R.at 7) (R.at 92) B.f1 rfl ?_)); intro g D
   refine sg (aF (R.at 93) (aB ?_))
   have hfe : doD y d = ((cM y d.run).1, gN (cM y d.run).2) := by unfold doD; rw [if_neg (by rw [hdk]; decide), if_neg n, if_neg t, if_neg a, if_neg c, if_neg p, if_neg z, if_pos A]
   exact ⟨_, rfl, J, O, (cM y d.run).2, (by rw [hfe]), (rC _ _), (R.put.to aD), (by rw [hfe]; exact D.f5.f5.f5.f5.f4.f5)⟩
  refine wp_seq (aA (sg (aV aL rfl (M.at 2) (N.get 4 rfl) (Shape.len hc) (sg (bC func51 rfl rfl ((RestartS L (aR hc N.below) aE).mono ?_)))))); rintro _ g ⟨B, G, rfl, H⟩; refine ⟨_, rfl, ?_⟩
  have J := St.call N H
  refine sgn (aJ (cs := B) aL (bB (J.f1.get 1 rfl) rfl) (M.at 7) rfl J.f1 rfl ?_); intro D O
  refine aB (wp_seq (aA (lw M.put.put.put.put.put.put.put.put.put.put.put.put.put.put.put.put.put.put [(2, pt_ q), (4, pt_ E), (5, pt_ F), (6, I 0), (7, pt_ K)] aD fun g => (rc O 3 g [] [(21, .bool (!(dB y)))] [qw 5 rfl (Shape.len hc), qc func42 rfl (fun W s b => nD W (aR hc s.below) aE), .o] aD fun D H q J L => (aB (bZ (q.at 21) (fun E => ?_) (fun E => ?_)))))))
  ·refine aA (sg (aG (aB ?_)))
   have hfe : doD y d = ((eU y), gN 8) := by unfold doD; rw [if_neg (by rw [hdk]; decide), if_neg n, if_neg t, if_neg a, if_neg c, if_neg p, if_neg z, if_neg A, if_neg (by rw [(aY E)]; decide)]
   exact ⟨_, rfl, B, G, 8, (by rw [hfe]), aE, (q.put.to aD), (by rw [hfe]; exact J.f5.f5.f5.f5.f4.f5)⟩
  refine wp_skip ?_
  have hfe : doD y d = ((eU y), gN 0) := by unfold doD; rw [if_neg (by rw [hdk]; decide), if_neg n, if_neg t, if_neg a, if_neg c, if_neg p, if_neg z, if_neg A, if_pos (aX E)]
  exact ⟨_, rfl, B, G, 0, (by rw [hfe]), aE, (q.to aD), (by rw [hfe]; exact J.f5.f5.f5.f5.f4.f5)⟩
 obtain ⟨csJ, fpJ, cJ, g, hJr, D, F⟩ := j
 refine wp_seq (aA (sg (aV aL rfl (D.at 7) (F.get 1 rfl) (Shape.len (bB (F.get 0 rfl) rfl)) (sg (aH (D.at 6) (sg (dD (vs := [(0, I cJ)]) (cs := [I cJ, I 0, I 0, I 0]) (bR (v := I cJ) rfl dJ) aD (sgn (aJ (cs := csJ) aL (bB (F.f3.get 1 rfl) rfl) (D.at 4) rfl F.f3 rfl ?_))))))))); intro t a
 refine sgn (aK aD (D.at 5) rfl (aC rfl (aC rfl (aC rfl (aC rfl bE)))) a.f3 bH rfl ?_); intro c j
 refine aB (wr (mW aL rfl fV rfl results73 (D.at 4) (j.get 1 rfl) (Shape.len (bB (j.get 2 rfl) rfl)) (D.at 5) (j.get 0 rfl) rfl ?_))
 rw [g]
 exact ⟨_, _, rfl, tH hJr, j.f2.d1.d1.d1.d1.d1⟩
theorem restartY_wt {y : Yard} (h : dB y = true) : (eU y).wt ≤ 100000 := by
 have hY := iE h
 unfold eU
 rw [h, if_pos rfl]
 exact (RI.outer hY _ (Nat.le_refl _)).wt hY (by have := hY.runs; omega)
theorem rV {y : Yard} {s : List (List Entry)} {rr : List Run} {a b : Int} (h4 : s.length = 4) (he : ∀ j, j < 4 → (s.getD j []).length ≤ 1000) (h8 : rr.length ≤ 8) (hr : ∀ r ∈ rr, r.wt ≤ 42) : (⟨a, b, s, rr⟩ : Yard).wt ≤ 100000 := by
 have hs := sA (fun z : List Entry => z.length) 1000 s (fun z hz => by
  obtain ⟨j, hj, rfl⟩ := getElem_of_mem hz
  have := he j aE
  rw [getD_eq_getElem?_getD, getElem?_eq_getElem hj] at this
  simpa using this)
 have hq := sA (fun z : Run => z.wt) 42 rr hr
 rw [h4] at hs
 have : rr.length * 42 ≤ 8 * 42 := Nat.mul_le_mul_right _ h8
 unfold Yard.wt wtL
 simp only
 omega
theorem xZ {y : Yard} (hY : YardIs y) {k : Nat} {r r' : Run} (hr : y.runs[k]? = some r) (hl : r'.tasks.length ≤ 12) (hw : r'.wt ≤ 42) : (cZ y k r r').wt ≤ 100000 := by
 have s := hY.shelf
 have hsr := iA r'.id
 have hfl := mZ r r'
 refine rV (y := y) ?_ ?_ ?_ ?_
 ·rw [kK]; exact s
 ·intro j hj
  by_cases e : j = (bL r'.id).toNat
  ·subst e
   rw [kL _ _ _ _ _ _ aE]
   have := kV hY (bL r'.id).toNat aE
   omega
  rw [lN _ _ _ j e]
  have := kV hY j hj
  omega
 ·rw [length_set]; exact hY.runs
 intro q hq
 rcases mem_or_eq_of_mem_set hq with h | rfl
 ·exact sK hY q h
 exact hw
theorem doneR_wt {r : Run} (h : RunIs r) (i : Nat) : (gV r i).tasks.length ≤ 12 ∧ (gV r i).wt ≤ 42 := by
 obtain ⟨s, t, a, b⟩ := nB r i
 have hs := h.small
 have hw := h.wt
 unfold Run.wt at hw ⊢
 rw [t, a]
 omega
theorem completeY_wt {y : Yard} (id task try_ : Int) {B : Nat} (hB : 100000 ≤ B) (hw : y.wt ≤ B) : (hQ y id task try_).wt ≤ B := by
 unfold hQ
 by_cases h : fY y id task try_ = 0
 ·obtain ⟨hY, k, r, t, hk, hr, hR, s, ht, a⟩ := uK h
  rw [nK h hk hr]
  obtain ⟨b, c⟩ := doneR_wt hR task.toNat
  have := xZ hY hr b c
  omega
 rw [lS h]; exact hw
theorem startT_wt {r : Run} (i : Nat) (t : Task) (now : Int) : (iX r i t now).wt = r.wt := by unfold iX Run.wt; simp
theorem given_wt {y out : Yard} {home : Nat} (hY : YardIs y) (h : PI y out home) : (rQ out home).1.wt ≤ 100000 := by
 have hb := h.wt hY
 unfold rQ
 split
 ·exact hb
 next e rest he =>
 split
 ·exact hb
 next k hk =>
 split
 ·exact hb
 next r hr =>
 split
 ·exact hb
 next t ht =>
 have hrest : rest.length ≤ 80 := by
  by_cases hh : home < 4
  ·have := h.each home hh; rw [he] at this; simp only [length_cons] at this; omega
  rw [getD_eq_getElem?_getD, getElem?_eq_none (by have := h.len; omega)] at he; cases he
 refine aA8 (y := y) (by rw [length_set]; exact h.len) (mK h.each hrest h.len) (by rw [length_set, h.runs]; exact hY.runs) ?_
 intro q hq
 rcases mem_or_eq_of_mem_set hq with s | rfl
 ·rw [h.runs] at s; exact sK hY q s
 rw [startT_wt]
 rw [h.runs] at hr
 exact sK hY r (mem_of_getElem? hr)
theorem polled_wt {y : Yard} (worker draw : Int) {B : Nat} (hB : 100000 ≤ B) (hw : y.wt ≤ B) : (eW y worker draw).1.wt ≤ B := by
 unfold eW
 split
 ·exact hw
 next s =>
 split
 ·exact hw
 next t =>
 have hY := iE (y := y) (by simpa using s)
 have hi := inB_iff'.1 (show inB worker 0 99 = true by simpa using t)
 have hh : (((worker % 4).toNat : Nat) : Int) = worker % 4 := by omega
 have hPI := PI.all hY (home := (worker % 4).toNat) aE (l := cT (worker % 4) draw) (by rw [hh]; exact oZ aE) (PI.start hY aE)
 rw [hh] at hPI
 have := given_wt hY hPI
 omega
theorem failsR_wt {r : Run} (h : RunIs r) {i : Nat} {t : Task} (ht : r.tasks[i]? = some t) (h3 : t.state = 3) : (cS r i).tasks.length ≤ 12 ∧ (cS r i).wt ≤ 42 := by
 have hR := h.fails ht h3
 exact ⟨hR.small.2.1, hR.wt⟩
theorem failY_wt {y : Yard} (id task try_ : Int) {B : Nat} (hB : 100000 ≤ B) (hw : y.wt ≤ B) : (oW y id task try_).wt ≤ B := by
 by_cases hA0 : fY y id task try_ = 0
 ·obtain ⟨hY, k, r, t, hix, hr, hRI, s, hti, a⟩ := uK hA0
  have hd := failsR_wt hRI hti a
  have e : oW y id task try_ = cZ y k r (cS r task.toNat) := nK hA0 hix hr
  rw [e]
  exact Nat.le_trans (xZ hY hr hd.1 hd.2) hB
 have e : oW y id task try_ = y := lS hA0
 rw [e]; exact hw
theorem submitted_wt {y : Yard} (id : Int) (p : Plan) {B : Nat} (hB : 100000 ≤ B) (hw : y.wt ≤ B) : (bV y id p).1.wt ≤ B := by
 unfold bV
 split
 ·exact hw
 next s =>
 split
 ·exact hw
 split
 ·exact hw
 split
 ·exact hw
 next t =>
 split
 ·exact hw
 next a =>
 have hY := iE (by simpa using s)
 have hpf : bM p = 0 := by simpa using t
 have hpr := nL hpf
 have hroom : mG y p = true := by simpa using a
 have b : y.runs.length < 8 := by unfold mG at hroom; simp at hroom; omega
 refine Nat.le_trans (rV (y := y) ?_ ?_ ?_ ?_) hB
 ·rw [kK]; exact hY.shelf
 ·intro j hj
  by_cases e : j = (bL id).toNat
  ·subst e
   rw [kL _ _ _ _ _ _ (by have := hY.shelf; omega)]
   have s : (bI (dZ id p).tasks 2).length ≤ (dZ id p).tasks.length := iV _ _ _
   have c : (dZ id p).tasks.length = p.tasks.toNat := eX p _
   have t := kV hY (bL id).toNat hj
   omega
  rw [lN _ _ _ j e]
  have := kV hY j hj
  omega
 ·rw [length_append, length_singleton]; omega
 intro r hr
 rcases mem_append.1 hr with hr | hr
 ·obtain ⟨j, hj⟩ := mem_iff_getElem?.1 hr
  exact (hY.run j r hj).1.wt
 rw [mem_singleton] at hr; subst hr
 have c : (dZ id p).tasks.length = p.tasks.toNat := eX p _
 show (dZ id p).plan.wt + (dZ id p).tasks.length ≤ 42
 have : (dZ id p).plan.wt = p.edges.length := rfl
 omega
theorem ticked_wt {y : Yard} {B : Nat} (hB : 100000 ≤ B) (hw : y.wt ≤ B) : (eS y).1.wt ≤ B := by
 unfold eS
 split
 ·exact hw
 next s =>
 split
 ·exact hw
 have hY := iE (by simpa using s)
 have hn := hY.now
 have hr := hY.runs
 have hl := nP hY y.runs.length
 have t : YardIs (fH (y.now + 1) y) := hY.at aE
 have a := RI.list t (l := cB y) aC4 (cB y).length
 rw [take_length] at a
 exact Nat.le_trans (a.wt t (by show (lC y y.runs.length).length ≤ 1000; omega)) hB
theorem goneR_wt (r : Run) : (pO r).wt = r.wt := by
 unfold pO
 split
 ·show r.plan.wt + (iR r.tasks (-1)).length = _
  rw [xC]; rfl
 rfl
theorem cancelled_wt {y : Yard} (id : Int) {B : Nat} (hB : 100000 ≤ B) (hw : y.wt ≤ B) : (cO y id).1.wt ≤ B := by
 unfold cO
 split
 ·exact hw
 next s =>
 split
 ·next r hr =>
  split
  ·exact hw
  split
  ·exact hw
  have hY := iE (by simpa using s)
  refine Nat.le_trans (rV (y := y) hY.shelf (fun j hj => by have := kV hY j hj; omega) (by rw [length_set]; exact hY.runs) ?_) hB
  intro q hq
  rcases mem_or_eq_of_mem_set hq with hq | hq
  ·obtain ⟨j, hj⟩ := mem_iff_getElem?.1 hq
   exact (hY.run j q hj).1.wt
  subst hq
  rw [goneR_wt]
  exact (hY.run _ r hr).1.wt
 exact hw
theorem forgotten_wt {y : Yard} (id : Int) {B : Nat} (hB : 100000 ≤ B) (hw : y.wt ≤ B) : (cM y id).1.wt ≤ B := by
 unfold cM
 split
 ·exact hw
 next s =>
 split
 ·next r hr =>
  split
  ·exact hw
  split
  ·exact hw
  have hY := iE (by simpa using s)
  refine Nat.le_trans (rV (y := y) (by rw [length_map]; exact hY.shelf) (fun j hj => ?_) ?_ ?_) hB
  ·have t := kV hY j hj
   have a := hY.shelf
   rw [getD_eq_getElem?_getD, getElem?_map]
   rw [getD_eq_getElem?_getD] at t
   cases hq : y.shelf[j]? with
   | none => simp
   | some l =>
    rw [hq] at t
    have := aC5 id l
    simp at t ⊢; omega
  ·have := length_eraseIdx_le y.runs (bJ y id).toNat
   have := hY.runs
   omega
  intro q hq
  obtain ⟨j, hj⟩ := mem_iff_getElem?.1 (mem_of_mem_eraseIdx hq)
  exact (hY.run j q hj).1.wt
 exact hw
theorem doD_wt {y : Yard} (d : Deed) {B : Nat} (hB : 100000 ≤ B) (hw : y.wt ≤ B) : (doD y d).1.wt ≤ B := by
 unfold doD
 split
 ·exact hw
 split
 ·exact submitted_wt _ _ hB hw
 split
 ·exact polled_wt _ _ hB hw
 split
 ·exact completeY_wt _ _ _ hB hw
 split
 ·exact failY_wt _ _ _ hB hw
 split
 ·exact ticked_wt hB hw
 split
 ·exact cancelled_wt _ hB hw
 split
 ·exact forgotten_wt _ hB hw
 show (eU y).wt ≤ B
 cases h : dB y with
 | true => exact Nat.le_trans (restartY_wt h) hB
 | false =>
  have : eU y = y := by unfold eU; rw [h]; rfl
  rw [this]; exact hw
noncomputable def doAt (ss : List Span) (y : Yard) (k : Int) : Yard := match ss[k.toNat]? with | some s => (doD y s.deed).1 | none => y
noncomputable def yTo (ss : List Span) (y : Yard) (l : List Int) : Yard := l.foldl (doAt ss) y
theorem aJ0 (ss : List Span) : ∀ (l : List Int) {y : Yard}, y.wt ≤ 1048576 → (yTo ss y l).wt ≤ 1048576
 | [], y, h => h
 | k :: l, y, h => by
  show (yTo ss (doAt ss y k) l).wt ≤ _
  refine aJ0 ss l ?_
  unfold doAt
  split
  ·exact doD_wt _ aZ h
  ·exact h
theorem aN7 {ss : List Span} {y : Yard} {os : List Int} {j : Nat} {k : Int} {s : Span} (hk : os[j]? = some k) (hs : ss[k.toNat]? = some s) : yTo ss y (os.take (j + 1)) = (doD (yTo ss y (os.take j)) s.deed).1 := by
 unfold yTo
 rw [take_add_one, hk, foldl_append]
 show doAt ss _ k = _
 unfold doAt
 rw [hs]
def uV (y : Yard) (ss : List Span) (os : List Int) (j : Nat) (k : Int) : Prop :=
 (0 ≤ k ∧ k ≤ (ss.length : Int) - 1) ∧ k ∉ os.take j ∧ ∀ s, ss[k.toNat]? = some s → (∀ i, i < j → ∀ m s2, os[i]? = some m → ss[m.toNat]? = some s2 → ¬ s.end_ < s2.begin_) ∧ (doD (yTo ss y (os.take j)) s.deed).2 = s.reply
noncomputable def jM (y : Yard) (ss : List Span) (os : List Int) : Bool := pB (ss.length ≤ 6 ∧ os.length = ss.length ∧ ∀ j k, os[j]? = some k → uV y ss os j k)
theorem aF7 {y : Yard} {ss : List Span} {os : List Int} (h : ¬ (ss.length ≤ 6 ∧ os.length = ss.length)) : jM y ss os = false := by
 unfold jM; exact fU (fun hz => h ⟨hz.1, hz.2.1⟩)
theorem lA {y : Yard} {ss : List Span} {os : List Int} {j : Nat} {k : Int} (hk : os[j]? = some k) (h : ¬ uV y ss os j k) : jM y ss os = false := by
 unfold jM; exact fU (fun hz => h (hz.2.2 j k hk))
theorem aF8 {y : Yard} {ss : List Span} {os : List Int} (h1 : ss.length ≤ 6) (h2 : os.length = ss.length) {j : Nat} (hj : j = os.length) (h : ∀ i k, i < j → os[i]? = some k → uV y ss os i k) : jM y ss os = true := by
 unfold jM
 exact oX ⟨h1, h2, fun i k hk => h i k (by have := (gsi_.1 hk).1; omega) hk⟩
theorem aF6 {y : Yard} {ss : List Span} {os : List Int} {j : Nat} {k : Int} (hk : os[j]? = some k) (h : ∀ i k, i < j → os[i]? = some k → uV y ss os i k) (h2 : uV y ss os j k) : ∀ i k, i < j + 1 → os[i]? = some k → uV y ss os i k := by
 intro i m hi hm
 by_cases e : i = j
 ·subst e; rw [hk] at hm; rw [← Option.some.inj hm]; exact h2
 exact h i m aE hm
def nJ (ss : List Span) (os : List Int) (j : Nat) : List Bool := (List.range ss.length).map (fun (m : Nat) => decide ((m : Int) ∈ os.take j))
theorem vR {ss : List Span} {os : List Int} {j m : Nat} (h : m < ss.length) : (nJ ss os j)[m]? = some (decide ((m : Int) ∈ os.take j)) := by
 unfold nJ; rw [getElem?_map, getElem?_range h]; rfl
theorem pY (ss : List Span) (os : List Int) (j : Nat) : (nJ ss os j).length = ss.length := by simp [nJ]
theorem usedL_zero (ss : List Span) (os : List Int) : List.replicate ss.length false = nJ ss os 0 := by
 apply ext_getElem?
 intro i
 unfold nJ
 rw [getElem?_replicate, getElem?_map]
 by_cases h : i < ss.length
 ·rw [if_pos h, getElem?_range h]; simp
 rw [if_neg h, getElem?_eq_none (by simp; omega)]; rfl
theorem usedL_set {ss : List Span} {os : List Int} {j : Nat} {k : Int} (hk : os[j]? = some k) (h0 : 0 ≤ k) : (nJ ss os j).set k.toNat true = nJ ss os (j + 1) := by
 apply ext_getElem?
 intro i
 by_cases hi : i < ss.length
 ·rw [getElem?_set, vR hi, vR hi]
  have hm : ((i : Int) ∈ os.take (j + 1)) ↔ ((i : Int) ∈ os.take j ∨ (i : Int) = k) := by
   rw [take_add_one, hk]; simp
  by_cases e : k.toNat = i
  ·rw [if_pos e, if_pos (by rw [pY]; omega)]
   have s : (i : Int) = k := by omega
   rw [decide_eq_true (hm.2 (Or.inr s))]
  rw [if_neg e]
  have : ¬ (i : Int) = k := by omega
  simp [hm, this]
 rw [getElem?_eq_none (by rw [length_set, pY]; omega), getElem?_eq_none (by rw [pY]; omega)]
def lap (a b : Span) : Bool := !decide (a.end_ < b.begin_) && !decide (b.end_ < a.begin_)
def lapI (xs : List Span) (i : Nat) (b : Span) : Bool := match xs[i]? with | some a => lap a b | none => false
def ovRow (xs : List Span) (i j : Nat) : Nat := ((xs.take j).filter (lapI xs i)).length
def ovTo (xs : List Span) : Nat → Nat
 | 0 => 0
 | i + 1 => ovTo xs i + ovRow xs i i
def overlaps (xs : List Span) : Int := if xs.length ≤ 6 then (ovTo xs xs.length : Nat) else 0
theorem tq13_ {P : Prop} (h : P := by
 refine bY zq1 rfl zq2 aZ (wp_seq (aA (sg (aI (cs := cs) rfl (St.start w) ?_)))); intro b1 W2 hb3 st4
 refine sg (aI (cs := ds) rfl st4 ?_); intro b6 W7 hb8 st9
 refine sg (aG (aB (wp_seq (aA (sg (aN fa_Span_2 rfl ?_))))))
 have hk11 := hc
 obtain ⟨v11_0, g11_0, rfl, hok11, h11_0, rfl⟩ := hk11
 refine sg (aW dA rfl rfl (st9.get 1 rfl) (i := 12) rfl rfl (sg (aN fa_Span_1 rfl ?_)))
 have hk12 := hd
 obtain ⟨v12_0, g12_0, rfl, hok12, h12_0, rfl⟩ := hk12
 refine sg (aW dA rfl rfl (st9.get 0 rfl) (i := 11) rfl rfl (sg (bU rfl rfl (sg (aF (v := .bool (decide (x.end_ < y.begin_))) rfl (aB (wp_ret ?_))))))); repeat first|refine aD4 ?_|refine aM5 ?_
 refine bA zq3 rfl ?_
 exact ⟨rfl, st9.bare⟩) : P := h
theorem Ahead2I {x y : Span} {cs ds : List Value} {fp gp : List Nat} (hc : Shape.C w cs x fp) (hd : Shape.C w ds y gp) :
  Calls prog 76 #[.agg cs.toArray, .agg ds.toArray] w fun e w' => e = .returned (.bool (decide (x.end_ < y.begin_))) ∧ St w w' [] := by have zq1 := @func76; have zq2 := @ntmps76; have zq3 := @results76; exact tq13_
theorem Ahead2S {x y : Span} {cs ds : List Value} {fp gp : List Nat} (hc : Shape.C w cs x fp) (hd : Shape.C w ds y gp) :
  Calls prog 72 #[.agg cs.toArray, .agg ds.toArray] w fun e w' => e = .returned (.bool (decide (x.end_ < y.begin_))) ∧ St w w' [] := by have zq1 := @func72; have zq2 := @ntmps72; have zq3 := @results72; exact tq13_
theorem OrderedByI {y : Yard} (hc : Shape.C w cs y fp) {vs vo : Value} {ss : List Span} {os : List Int} {fs fo : List Nat} (hs : Sl w vs ss fs) (ho : Sl w vo os fo) (hw : y.wt ≤ 1048576) :
  Calls prog 35 #[.agg cs.toArray, vs, vo] w (rB_ (jM y ss os) w) := by
 refine iS func35 rfl ntmps35 aZ (wp_seq (aA (sg (aI (cs := cs) rfl (St.start w) ?_)))); intro t a c d
 refine sg (aG (aB (wp_seq (wp_seq (aA (rg d 10 Ag.nil.put.put.put.put.put [] [(23, .bool ((decide (6 < (ss.length : Int))) || (!decide ((os.length : Int) = (ss.length : Int)))))] [ql hs, .o, ql ho, ql hs, .o] aD fun f9 g n p q => (aB (bZ (n.at 23) (fun a => ?_) (fun a => ?_)))))))))
 ·refine wp_seq (aA (sg (aG (aB (wr (bA results35 rfl ?_))))))
  exact ⟨(fB (aF7 (fun hz => by have h_ := a; simp [hz.1, hz.2] at h_; omega)).symm), p.bare⟩
 refine wp_skip (wp_seq ?_)
 have hlen : ss.length ≤ 6 ∧ os.length = ss.length := by have h_ := a; simp at h_; omega
 refine aA (sg (aV aL rfl (n.at 3) (p.get 0 rfl) (Shape.len hc) (sg (aQ cI p ?_)))); intro z c d g
 refine sgn (aJ (cs := cs) aL hc rfl rfl g rfl ?_); intro q A
 refine aB (wp_seq (wp_seq (aA (rn A 3 n.put.put [] [(25, vo), (26, I (os.length : Int)), (27, I 0)] [ql ho] aD fun a B => (aB (wp_block (bF (fun (m : Nat) (f : Nat → Value) (W : World) => ∃ (j : Nat) (csY : List Value) (fpY : List Nat), j ≤ os.length ∧ (∀ i k, i < j → os[i]? = some k → uV y ss os i k) ∧ Shape.C W csY (yTo ss y (os.take j)) fpY ∧ m = os.length - j ∧ Ag [(1, vs), (2, vo), (7, pt_ z), (25, vo), (26, I (os.length : Int)), (27, I (j : Int))] f ∧ St w W ([Res.bx z csY 34, Res.bx t cs 34])) (os.length - 0) ?_ ?_)))))))
 ·exact ⟨0, cs, fp, Nat.zero_le _, (fun i k hi => absurd hi (Nat.not_lt_zero i)), (aR hc A.below), rfl, (B.to aD), A⟩
 intro a c d g
 obtain ⟨j, csY, fpY, hj, hord, hCY, rfl, D, E⟩ := g
 refine wp_seq (aA (sg (bU (D.at 27) (D.at 26) (aB (wp_seq (aP rfl (fun n => ?_) (fun n => ?_)))))))
 ·refine wp_skip (wp_seq (wp_block (wp_seq ?_)))
  have F := dW (xs := os) (i := j) aE
  obtain ⟨k, hk⟩ := F
  have hwt : (yTo ss y (os.take j)).wt ≤ 1048576 := aJ0 ss _ hw
  refine aA ?_
  have a : j < os.length := (gsi_.1 hk).1
  have F := eB ho (i := j) hk
  obtain ⟨c, d, g, n, G, H, p, q⟩ := F
  have J := p
  obtain ⟨rfl, rfl, A⟩ := J
  refine rn E 5 D.put [] [(8, I (j : Int)), (9, I k)] [qx G, qr H 0] aD fun a K => (aB (wp_seq (wp_seq (aA ?_))))
  rcases bd (!(inB k 0 ((ss.length : Int) - 1))) with L | L
  ·have M := inB_iff'.1 (aX L)
   refine rc E 9 K [] [(38, .bool false), (39, vo), (40, I (j : Int))] [ql hs, qsb (ss.length : Int) 1, qc func47 rfl (fun W s b => cF W k 0 ((ss.length : Int) - 1)), qk L] aD fun a c d g n => (sgo 38 rfl aZ (yl_on (d.at 38) rfl) (mT (h := j) eG (d.at 39) ho (d.at 40) rfl aE ?_)); intro p q A B
   refine rc g 3 d.put [] [(44, .bool (decide (k ∈ (os.take j))))] [qc func75 rfl (fun W s b => aQ2 W (A.below s.below) k)] aD fun a c D G H => (aB (aP (D.at 44) (fun J => ?_) (fun J => ?_)))
   ·have p := decide_eq_true J
    refine wp_seq (aA (sg (aG (aB (wr (bA results35 rfl ?_))))))
    exact ⟨(fB (lA hk (fun hz => by have N := inB_iff'.2 hz.1; have O := hz.2.1; simp_all)).symm), G.bare⟩
   have p := decide_eq_false J
   refine wp_skip (wp_seq (wp_seq ?_))
   have hkr : 0 ≤ k ∧ k ≤ (ss.length : Int) - 1 := by have h_ := L; simp at h_; exact inB_iff'.1 (by simp_all)
   have hkn : ((k.toNat : Nat) : Int) = k := by omega
   have hnk : k ∉ os.take j := by have h_ := p; simp at h_; simp_all
   have F := dW (xs := ss) (i := k.toNat) aE
   obtain ⟨sp, hsp⟩ := F
   refine aA (sg (aH (D.at 2) (sg (aH (D.at 8) (sg (mT (h := j) eG rfl ho rfl rfl aE ?_)))))); intro a c d g
   refine sg (eY eG rfl d (sg (aH (v := I 0) rfl (aB (wp_block (bF (fun (m : Nat) (f : Nat → Value) (W : World) => ∃ (i : Nat), i ≤ (os.take j).length ∧ (∀ P, P < i → ∀ m R, os[P]? = some m → ss[m.toNat]? = some R → ¬ sp.end_ < R.begin_) ∧ Shape.C W csY (yTo ss y (os.take j)) fpY ∧ m = (os.take j).length - i ∧ Ag [(1, vs), (2, vo), (7, pt_ z), (9, I k), (25, vo), (26, I (os.length : Int)), (27, I (j : Int)), (47, a), (48, I ((os.take j).length : Int)), (49, I (i : Int))] f ∧ St w W ([Res.bx z csY 34, Res.bx t cs 34])) ((os.take j).length - 0) ?_ ?_))))))
   ·exact ⟨0, Nat.zero_le _, (fun P S => absurd S (Nat.not_lt_zero P)), (aR hCY (n.trans (H.mono n.size))), rfl, (D.put.put.put.put.put.to aD), G⟩
   intro a c T g
   obtain ⟨i, hi, hin, hCZ, rfl, U, X⟩ := g
   have htl : (os.take j).length = j := by rw [length_take]; omega
   refine wp_seq (aA (sg (bU (U.at 49) (U.at 48) (aB (wp_seq (aP rfl (fun Y => ?_) (fun Y => ?_)))))))
   ·refine wp_skip (wp_seq (wp_block (wp_seq ?_)))
    have hit : i < j := by have := Y; omega
    have F := dW (xs := os.take j) (i := i) aE
    obtain ⟨m, hm⟩ := F
    have Z : os[i]? = some m := by rw [← hm, getElem?_take_of_lt hit]
    have hmr := (hord i m hit Z).1
    have F := dW (xs := ss) (i := m.toNat) aE
    obtain ⟨R, a0⟩ := F
    refine aA ?_
    have t : i < (os.take j).length := (gsi_.1 hm).1
    have F := eB d (i := i) hm
    obtain ⟨a, c, g, n, b0, c0, p, q⟩ := F
    have e0 := p
    obtain ⟨rfl, rfl, A⟩ := e0
    refine rn X 3 U.put [] [(11, I m)] [qx b0, qr c0 0] aD fun t B => (aB (wp_seq ?_))
    have f0 : (k).toNat < ss.length := (gsi_.1 hsp).1
    have F := eB hs (i := (k).toNat) hsp
    obtain ⟨a, c, d, g, n, p, q, A⟩ := F
    have D : (m).toNat < ss.length := (gsi_.1 a0).1
    have F := eB hs (i := (m).toNat) a0
    obtain ⟨t, G, H, J, b0, c0, e0, g0⟩ := F
    refine rd X B [] [(61, .bool (decide (sp.end_ < R.begin_)))] [qxe n (e := k) aE, qrw p (Shape.len q), qxe b0 (e := m) aE, qrw c0 (Shape.len e0), qc func76 rfl (fun W s b => Ahead2I W (aR q s.below) (aR e0 s.below))] aD aD fun t a h0 j0 c => (aP (h0.at 61) (fun k0 => ?_) (fun k0 => ?_))
    ·refine wp_seq (aA (sg (aG (aB (wr (bA results35 rfl ?_))))))
     exact ⟨(fB (lA hk (fun hz => ((hz.2.2 sp hsp).1 i hit m R Z a0) k0)).symm), j0.bare⟩
    refine wp_skip (aA (sg (bO (h0.at 49) rfl dL (sg (aH (v := I ((i : Int) + 1)) rfl (aB ?_))))))
    have l0 := (aR hCZ c)
    exact ⟨_, (os.take j).length - (i + 1), aE, rfl, i + 1, aE, (fun P S m0 n0 o0 p0 => by rcases Nat.lt_succ_iff_lt_or_eq.1 S with t | rfl; exact hin P t m0 n0 o0 p0; rw [Z] at o0; cases Option.some.inj o0; rw [a0] at p0; cases Option.some.inj p0; exact k0), l0, rfl, (h0.put.put.to aD), j0⟩
   refine wp_exit (wp_seq ?_)
   have hij : i = j := by have := Y; omega
   have hall : ∀ i, i < j → ∀ m R, os[i]? = some m → ss[m.toNat]? = some R → ¬ sp.end_ < R.begin_ := by rw [hij] at hin; exact hin
   have q0 := hCZ
   have f0 : (k).toNat < ss.length := (gsi_.1 hsp).1
   have F := eB hs (i := (k).toNat) hsp
   obtain ⟨s0, t0, t, a, v0, w0, c, d⟩ := F
   have x0 := c
   obtain ⟨y0, g, rfl, n, z0, rfl⟩ := x0
   refine cK 13 [(some 6, some 12, .of (ι := List Value × List Nat) [70] (fun ⟨A0, B0⟩ => [.tuple #[.agg A0.toArray, .agg #[I (doD (yTo ss y (os.take j)) sp.deed).2.code, I (doD (yTo ss y (os.take j)) sp.deed).2.run, I (doD (yTo ss y (os.take j)) sp.deed).2.task, I (doD (yTo ss y (os.take j)) sp.deed).2.try_]]]) (fun ⟨A0, B0⟩ => Res.own (α := Yard) (.agg A0.toArray) (doD (yTo ss y (os.take j)) sp.deed).1 B0)), (some 10, some 12, .of (ι := Nat) [12] (fun C0 => [pt_ C0]) (fun C0 => Res.bx C0 [I 0, I 0, .slice none 0 0, .slice none 0 0] 34)), (some 11, none, .of (ι := Nat) [13] (fun D0 => [pt_ D0]) (fun D0 => Res.bx D0 [I 0, I 0, I 0, I 0] 75)), (some 12, none, .of (ι := Nat × List Value) [12, 70] (fun ⟨C0, A0⟩ => [pt_ C0, .tuple #[.agg A0.toArray, .agg #[I (doD (yTo ss y (os.take j)) sp.deed).2.code, I (doD (yTo ss y (os.take j)) sp.deed).2.run, I (doD (yTo ss y (os.take j)) sp.deed).2.task, I (doD (yTo ss y (os.take j)) sp.deed).2.try_]]]) (fun ⟨C0, A0⟩ => Res.bx C0 A0 34)), (some 12, none, .of (ι := List Value × List Nat) [70] (fun ⟨A0, B0⟩ => [.tuple #[.agg A0.toArray, .agg #[I (doD (yTo ss y (os.take j)) sp.deed).2.code, I (doD (yTo ss y (os.take j)) sp.deed).2.run, I (doD (yTo ss y (os.take j)) sp.deed).2.task, I (doD (yTo ss y (os.take j)) sp.deed).2.try_]]]) (fun ⟨A0, B0⟩ => Res.own (α := Yard) (.agg A0.toArray) (doD (yTo ss y (os.take j)) sp.deed).1 B0))] [(true, .is (.agg csY.toArray)), (true, .is (vs)), (true, .is (I k)), (true, .is (.pointer (some ⟨s0, t0, none⟩))), (true, .is (.pointer (some ⟨s0, t0 + 0, none⟩))), (true, .is (.agg #[I sp.deed.kind, I sp.deed.run, I sp.deed.plan.prio, I sp.deed.plan.most, I sp.deed.plan.wait, I sp.deed.plan.tasks, y0, I sp.deed.task, I sp.deed.try_, I sp.deed.worker, I sp.deed.draw])), (false, .ex (fun (A0 : List Value) => .tuple #[.agg A0.toArray, .agg #[I (doD (yTo ss y (os.take j)) sp.deed).2.code, I (doD (yTo ss y (os.take j)) sp.deed).2.run, I (doD (yTo ss y (os.take j)) sp.deed).2.task, I (doD (yTo ss y (os.take j)) sp.deed).2.try_]])), (true, .cp 70), (true, .pj 70 0), (true, .is (.agg #[I (doD (yTo ss y (os.take j)) sp.deed).2.code, I (doD (yTo ss y (os.take j)) sp.deed).2.run, I (doD (yTo ss y (os.take j)) sp.deed).2.task, I (doD (yTo ss y (os.take j)) sp.deed).2.try_])), (false, .ex (fun (C0 : Nat) => pt_ C0)), (false, .ex (fun (D0 : Nat) => pt_ D0)), (false, .is undef)] mix aD aD aD aD (rs0 := []) rfl (St.start T) (St.start T).below ⟨(fun f W hst hbl hd hf => cY aL rfl ((hf 7 rfl).trans (U.at 7)) (bQ (X.get 0 rfl)) hst.below (Shape.len q0) brq), (mq_ (U.at 1)), (mq_ (U.at 9)), (fun f W hst hbl hd hf => aT sG (hd 1 65 rfl rfl) v0 (hd 2 66 rfl rfl) aE brq), (fun f W hst hbl hd hf => aN uE (hd 3 67 rfl rfl) brq), (fun f W hst hbl hd hf => fZ (cs := [I sp.deed.kind, I sp.deed.run, I sp.deed.plan.prio, I sp.deed.plan.most, I sp.deed.plan.wait, I sp.deed.plan.tasks, y0, I sp.deed.task, I sp.deed.try_, I sp.deed.worker, I sp.deed.draw]) gB rfl (hd 4 68 rfl rfl) w0 (X.below.trans (hst.below.mono X.below.size)) (i := 0) rfl rfl rfl brq), ?_, (fun f W hst hbl hd hf => by have E0 := hd 6 70 rfl rfl; obtain ⟨A0, F⟩ := E0; exact aH (v := .tuple #[.agg A0.toArray, .agg #[I (doD (yTo ss y (os.take j)) sp.deed).2.code, I (doD (yTo ss y (os.take j)) sp.deed).2.run, I (doD (yTo ss y (os.take j)) sp.deed).2.task, I (doD (yTo ss y (os.take j)) sp.deed).2.try_]]) F ⟨Below.refl _ _, F.symm⟩), (fun f W hst hbl hd hf => by have E0 := hd 6 70 rfl rfl; obtain ⟨A0, F⟩ := E0; exact fS ((hd 7 63 rfl rfl).trans F) rfl ⟨Below.refl _ _, (by show _ = prj 0 (f 70); rw [F]; rfl)⟩), (fun f W hst hbl hd hf => by have E0 := hd 6 70 rfl rfl; obtain ⟨A0, F⟩ := E0; exact fS ((hd 7 63 rfl rfl).trans F) rfl brq), ?_, ?_, ?_, trivial⟩ ?_
   ·intro f W ru oth hu hst hbl hd hf
    have F0 : ru = [] := hu
    subst F0
    try simp only [cap_, cL] at hst
    refine (bN func77 rfl (hd 0 64 rfl rfl) (hd 5 69 rfl rfl) ((DoI W (aR q0 hst.below) (show Shape.C _ [I sp.deed.kind, I sp.deed.run, I sp.deed.plan.prio, I sp.deed.plan.most, I sp.deed.plan.wait, I sp.deed.plan.tasks, y0, I sp.deed.task, I sp.deed.try_, I sp.deed.worker, I sp.deed.draw] sp.deed _ from ⟨_, _, rfl, fF, (z0.below (X.below.trans (hst.below.mono X.below.size))), rfl⟩) aE).mono ?_)); rintro _ t ⟨A0, B0, rfl, hokf121, a⟩; refine ⟨_, rfl, ?_⟩
    have c := St.call hst a
    exact ⟨⟨A0, rfl⟩, ⟨_, ⟨_, _, rfl, ⟨(A0, B0), (ce rfl rfl), rfl⟩, rfl⟩, c⟩, c.below⟩
   ·intro f W ru oth hu hst hbl hd hf
    have F0 : ru = [] := hu
    subst F0
    try simp only [cap_, cL] at hst
    refine (aQ cI hst ?_); intro C0 t a d
    exact ⟨⟨C0, rfl⟩, ⟨_, ⟨_, _, rfl, ⟨C0, (ce rfl rfl), rfl⟩, rfl⟩, d⟩, d.below⟩
   ·intro f W ru oth hu hst hbl hd hf
    have F0 : ru = [] := hu
    subst F0
    try simp only [cap_, cL] at hst
    refine (aQ kA hst ?_); intro D0 t a c
    exact ⟨⟨D0, rfl⟩, ⟨_, ⟨_, _, rfl, ⟨D0, (ce rfl rfl), rfl⟩, rfl⟩, c⟩, c.below⟩
   ·intro f W ru oth hu hst hbl hd hf
    obtain ⟨_, _, rfl, ⟨⟨A0, B0⟩, d, rfl⟩, _, _, rfl, ⟨C0, g, rfl⟩, F0⟩ := hu
    have F0 : _ = [] := F0
    subst F0
    have t : f 70 = .tuple #[.agg A0.toArray, .agg #[I (doD (yTo ss y (os.take j)) sp.deed).2.code, I (doD (yTo ss y (os.take j)) sp.deed).2.run, I (doD (yTo ss y (os.take j)) sp.deed).2.task, I (doD (yTo ss y (os.take j)) sp.deed).2.try_]] := congrArg (fun l => l.getD 0 undef) d
    have a : f 12 = pt_ C0 := congrArg (fun l => l.getD 0 undef) g
    try simp only [cap_, cL] at hst
    have c := hst.f1
    refine (aJ (cs := A0) aL (bB (c.get 1 rfl) rfl) a ((hd 8 71 rfl rfl).trans (by rw [t]; rfl)) c rfl ?_); intro d n
    exact ⟨rfl, ⟨_, ⟨_, _, rfl, ⟨(C0, A0), (ce a (ce t rfl)), rfl⟩, _, _, rfl, ⟨(A0, B0), (ce t rfl), rfl⟩, rfl⟩, n⟩, n.below⟩
   intro G0 g rs_ hAL_ H0 p J0 K0
   obtain ⟨_, _, rfl, ⟨D0, c, rfl⟩, _, _, rfl, ⟨⟨C0, A0⟩, d, rfl⟩, _, _, rfl, ⟨⟨cs116z145, B0⟩, a, rfl⟩, F0⟩ := hAL_
   have F0 : _ = [] := F0
   subst F0
   have L0 : G0 13 = pt_ D0 := congrArg (fun l => l.getD 0 undef) c
   have M0 : G0 12 = pt_ C0 := congrArg (fun l => l.getD 0 undef) d
   have N0 : G0 70 = .tuple #[.agg A0.toArray, .agg #[I (doD (yTo ss y (os.take j)) sp.deed).2.code, I (doD (yTo ss y (os.take j)) sp.deed).2.run, I (doD (yTo ss y (os.take j)) sp.deed).2.task, I (doD (yTo ss y (os.take j)) sp.deed).2.try_]] := congrArg (fun l => l.getD 1 undef) d
   have O0 : G0 70 = .tuple #[.agg cs116z145.toArray, .agg #[I (doD (yTo ss y (os.take j)) sp.deed).2.code, I (doD (yTo ss y (os.take j)) sp.deed).2.run, I (doD (yTo ss y (os.take j)) sp.deed).2.task, I (doD (yTo ss y (os.take j)) sp.deed).2.try_]] := congrArg (fun l => l.getD 0 undef) a
   obtain rfl : A0 = cs116z145 := by have h_ := N0.symm.trans O0; first | exact h_ | (simp at h_; first | exact h_ | exact h_.1 | exact h_.2 | exact h_.1.1)
   try simp only [cap_, cL] at H0
   refine sgn (aK aD L0 (J0 9 72 aZ rfl) (aC rfl (aC rfl (aC rfl (aC rfl bE)))) H0 bH rfl ?_); intro t a
   refine aB (wp_seq (wp_seq ?_))
   have c := St.call X a
   refine rk 6 c (Ag.cons (show G0 1 = vs from ((K0 1 rfl).trans (U.at 1))) (Ag.cons (show G0 2 = vo from ((K0 2 rfl).trans (U.at 2))) (Ag.cons (show G0 7 = pt_ z from ((K0 7 rfl).trans (U.at 7))) (Ag.cons (show G0 9 = I k from ((K0 9 rfl).trans (U.at 9))) (Ag.cons (show G0 12 = pt_ C0 from M0) (Ag.cons (show G0 13 = pt_ D0 from L0) (Ag.cons (show G0 25 = vo from ((K0 25 rfl).trans (U.at 25))) (Ag.cons (show G0 26 = I (os.length : Int) from ((K0 26 rfl).trans (U.at 26))) (Ag.cons (show G0 27 = I (j : Int) from ((K0 27 rfl).trans (U.at 27))) Ag.nil))))))))) [] [(73, .agg #[I (doD (yTo ss y (os.take j)) sp.deed).2.code, I (doD (yTo ss y (os.take j)) sp.deed).2.run, I (doD (yTo ss y (os.take j)) sp.deed).2.task, I (doD (yTo ss y (os.take j)) sp.deed).2.try_]), (78, .agg #[I sp.reply.code, I sp.reply.run, I sp.reply.task, I sp.reply.try_])] [qb 0 rfl 0, qxe v0 (e := k) aE, qr w0 13] aD aD fun t a c d g => (sg (wE (aE7 (doD (yTo ss y (os.take j)) sp.deed).2 sp.reply) aH0 (c.at 73) (c.at 78) (aB (bZ rfl (fun n => ?_) (fun n => ?_)))))
   ·refine wp_seq (aA (sg (aG (aB (wr (bA results35 rfl ?_))))))
    exact ⟨(fB (lA hk (fun hz => absurd ((hz.2.2 sp hsp).2) (fun he => by have h_ := aY n; rw [he, dN rfl] at h_; cases h_))).symm), d.bare⟩
   refine wp_skip (aA (sg (aV aL rfl (c.at 12) (d.get 1 rfl) (Shape.len (bB (d.get 2 rfl) rfl)) ?_)))
   have t := d.f3
   refine sgn (aJ (cs := A0) aL (bB (t.get 3 rfl) rfl) (c.at 7) rfl t (Shape.len q0) ?_); intro a g
   refine aB (aA (sg (bO (c.at 27) rfl dL (sg (aH (v := I ((j : Int) + 1)) rfl (aB ?_))))))
   have p := (bB (g.get 3 rfl) rfl)
   have d := g.f4.f1.d2.d2.d2
   exact ⟨_, os.length - (j + 1), aE, rfl, j + 1, A0, _, aE, (aF6 hk hord ⟨hkr, hnk, fun s_ hs_ => by rw [hsp] at hs_; cases Option.some.inj hs_; exact ⟨hall, eqB_iff.1 (aX n)⟩⟩), (by rw [aN7 hk hsp]; exact p), rfl, (c.put.put.put.put.to aD), d⟩
  have M := cU (aY L)
  refine rc E 13 K [] [(44, .bool true)] [ql hs, qsb (ss.length : Int) 1, qc func47 rfl (fun W s b => cF W k 0 ((ss.length : Int) - 1)), qk L] aD fun t a g n q => (aB (gY (g.at 44) rfl (wp_seq (aA (sg (aG (aB (wr (bA results35 rfl ?_)))))))))
  exact ⟨(fB (lA hk (fun hz => by have N := inB_iff'.2 hz.1; have O := hz.2.1; simp_all)).symm), n.bare⟩
 refine wp_exit (wp_seq (aA (sg (aG (aB (wr (bA results35 rfl ?_)))))))
 have hje : j = os.length := by omega
 exact ⟨(fB (aF8 hlen.1 hlen.2 hje hord).symm), E.bare⟩
theorem OrderedByS {y : Yard} (hc : Shape.C w cs y fp) {vs vo : Value} {ss : List Span} {os : List Int} {fs fo : List Nat} (hs : Sl w vs ss fs) (ho : Sl w vo os fo) (hw : y.wt ≤ 1048576) :
  Calls prog 33 #[.agg cs.toArray, vs, vo] w (rB_ (jM y ss os) w) := by
 refine iS func33 rfl ntmps33 aZ (wp_seq (aA (sg (aI (cs := cs) rfl (St.start w) ?_)))); intro t a c d
 refine sg (aG (aB (wp_seq (wp_seq (aA (rg d 10 Ag.nil.put.put.put.put.put [] [(22, .bool ((!decide ((os.length : Int) = (ss.length : Int))) || (decide (6 < (ss.length : Int)))))] [ql ho, ql hs, .o, ql hs, .o] aD fun f9 g n p q => (aB (bZ (n.at 22) (fun a => ?_) (fun a => ?_)))))))))
 ·refine wp_seq (aA (sg (aG (aB (wr (bA results33 rfl ?_))))))
  exact ⟨(fB (aF7 (fun hz => by have h_ := a; simp [hz.1, hz.2] at h_; omega)).symm), p.bare⟩
 refine wp_skip (wp_seq ?_)
 have hlen : ss.length ≤ 6 ∧ os.length = ss.length := by have h_ := a; simp at h_; omega
 refine aA (sg (aH (n.at 1) (sg (eY sG rfl hs (sg (tS (α := Bool) (N := ss.length) (v := .bool false) (z := false) aI1 aD rfl rfl aE aE p (fun W => ⟨rfl, rfl, trivial⟩) ?_)))))); intro A a c d g
 refine sg (aF (v := (.slice (some ⟨A, 0, none⟩) ss.length ss.length)) rfl (aB (wp_seq (aA (sg (aV aL rfl (n.at 3) (g.get 1 rfl) (Shape.len hc) (sg (bC func71 rfl rfl ((hX c (aR hc g.below) aE).mono ?_))))))))); rintro _ p ⟨q, B, rfl, d⟩; refine ⟨_, rfl, ?_⟩
 have D := St.call g d
 refine sg (aQ cI D ?_); intro E F G H
 refine sgn (aJ (cs := q) aL (bB (H.get 1 rfl) rfl) rfl rfl H rfl ?_); intro c p
 refine aB (wp_seq (wp_seq (aA (sg (aG (aB (wp_block (bF (fun (m : Nat) (f : Nat → Value) (W : World) => ∃ (j : Nat) (d : List Nat) (J : List Value) (K : List Nat), j ≤ os.length ∧ (∀ i k, i < j → os[i]? = some k → uV y ss os i k) ∧ m = os.length - j ∧ Ag [(1, vs), (2, vo), (7, (.slice (some ⟨A, 0, none⟩) ss.length ss.length)), (8, pt_ E), (9, I (j : Int))] f ∧ St w W ([Res.bx E J 34, Res.own (α := Yard) (.agg J.toArray) (yTo ss y (os.take j)) K, Res.own (α := List Bool) (.slice (some ⟨A, 0, none⟩) ss.length ss.length) (nJ ss os j) d, Res.bx t cs 34])) (os.length - 0) ?_ ?_))))))))
 ·exact ⟨0, a, q, B, Nat.zero_le _, (fun i k hi => absurd hi (Nat.not_lt_zero i)), rfl, (n.put.put.put.put.put.put.put.put.to aD), (by rw [← usedL_zero]; exact p)⟩
 intro c g D F
 obtain ⟨j, d, J, K, hj, hord, rfl, G, L⟩ := F
 have hul := pY ss os j
 refine wp_seq (wp_seq (aA (rn L 4 G [] [(31, .bool (decide ((j : Int) < (os.length : Int))))] [ql ho, .o] aD fun a M => (aB (aP (M.at 31) (fun c => ?_) (fun c => ?_))))))
 ·refine wp_skip (wp_seq (wp_block (wp_seq ?_)))
  have O := dW (xs := os) (i := j) aE
  obtain ⟨k, hk⟩ := O
  have hwt : (yTo ss y (os.take j)).wt ≤ 1048576 := aJ0 ss _ hw
  refine aA ?_
  have a : j < os.length := (gsi_.1 hk).1
  have O := eB ho (i := j) hk
  obtain ⟨c, d, g, n, P, R, p, q⟩ := O
  have S := p
  obtain ⟨rfl, rfl, B⟩ := S
  refine rn L 5 M [] [(10, I k)] [qx P, qr R 0] aD fun a T => (aB (wp_seq (wp_seq ?_)))
  have hua : inB k 0 ((ss.length : Int) - 1) = true → (nJ ss os j)[k.toNat]? = some (decide (k ∈ os.take j)) := fun h_ => by have U := inB_iff'.1 h_; rw [vR aE, show ((k.toNat : Nat) : Int) = k by omega]
  refine aA ?_
  rcases bd (!(inB k 0 ((ss.length : Int) - 1))) with X | X
  ·have Y := inB_iff'.1 (aX X)
   have Z : (k).toNat < (nJ ss os j).length := (gsi_.1 (hua (aX (by assumption)))).1
   have O := eB (aM (L.get 2 rfl)) (i := (k).toNat) (hua (aX (by assumption)))
   obtain ⟨a, c, d, g, a0, b0, n, p⟩ := O
   have c0 := n
   obtain ⟨rfl, rfl, q⟩ := c0
   refine rc L 12 T [] [(49, .bool (decide (k ∈ os.take j)))] [ql hs, qsb (ss.length : Int) 1, qc func43 rfl (fun W s b => cR W k 0 ((ss.length : Int) - 1)), qk X, qxe a0 (e := k) aE, qn b0 0] aD fun a c e0 f0 d => (aB (bZ (e0.at 49) (fun g => ?_) (fun g => ?_)))
   ·refine wp_seq (aA (sg (aG (aB (wr (bA results33 rfl ?_))))))
    exact ⟨(fB (lA hk (fun hz => by have g0 := inB_iff'.2 hz.1; have U := hz.2.1; simp_all)).symm), f0.bare⟩
   refine wp_skip (wp_seq ?_)
   have hkr : 0 ≤ k ∧ k ≤ (ss.length : Int) - 1 := by have h_ := X; simp at h_; exact inB_iff'.1 (by simp_all)
   have hkn : ((k.toNat : Nat) : Int) = k := by omega
   have hnk : k ∉ os.take j := by have h_ := g; simp at h_; simp_all
   have O := dW (xs := ss) (i := k.toNat) aE
   obtain ⟨sp, hsp⟩ := O
   refine aA ?_
   have Z : (k).toNat < (nJ ss os j).length := (gsi_.1 (hua (aX (by assumption)))).1
   have O := eB (aM (f0.get 2 rfl)) (i := (k).toNat) (hua (aX (by assumption)))
   obtain ⟨h0, j0, a, c, k0, d, g, n⟩ := O
   have l0 := g
   obtain ⟨rfl, rfl, p⟩ := l0
   refine rn f0 3 e0 [] [(52, .pointer (some ⟨h0, j0, none⟩))] [qxe k0 (e := k) aE] aD fun q B => (sgn (qA (α := Bool) (z := true) rfl aD (B.at 52) k0 Z rfl rfl rfl f0.f2 (fun W => ⟨rfl, rfl, trivial⟩) ?_)); intro m0 a c
   refine aB (wp_seq (wp_seq (aA (sg (aG (aB (wp_block (bF (fun (m : Nat) (f : Nat → Value) (W : World) => ∃ (i : Nat), i ≤ j ∧ (∀ n0, n0 < i → ∀ m o0, os[n0]? = some m → ss[m.toNat]? = some o0 → ¬ sp.end_ < o0.begin_) ∧ m = j - i ∧ Ag [(1, vs), (2, vo), (7, (.slice (some ⟨A, 0, none⟩) ss.length ss.length)), (8, pt_ E), (9, I (j : Int)), (10, I k), (11, I (i : Int))] f ∧ St w W ([Res.own (α := List Bool) (.slice (some ⟨A, 0, none⟩) ss.length ss.length) ((nJ ss os j).set (k).toNat true) m0, Res.bx E J 34, Res.own (α := Yard) (.agg J.toArray) (yTo ss y (os.take j)) K, Res.bx t cs 34])) (j - 0) ?_ ?_))))))))
   ·exact ⟨0, Nat.zero_le _, (fun n0 p0 => absurd p0 (Nat.not_lt_zero n0)), rfl, (B.put.to aD), c⟩
   intro a d g n
   obtain ⟨i, hi, hin, rfl, p, q0⟩ := n
   refine wp_seq (wp_seq (aA (rn q0 3 p [] [(55, .bool (decide ((i : Int) < (j : Int))))] [.o] aD fun q s0 => (aB (aP (s0.at 55) (fun t0 => ?_) (fun t0 => ?_))))))
   ·refine wp_skip (wp_seq (wp_block (wp_seq ?_)))
    have hit : i < j := by have := t0; omega
    have O := dW (xs := os) (i := i) aE
    obtain ⟨m, v0⟩ := O
    have hmr := (hord i m hit v0).1
    have O := dW (xs := ss) (i := m.toNat) aE
    obtain ⟨o0, w0⟩ := O
    have x0 : (k).toNat < ss.length := (gsi_.1 hsp).1
    have O := eB hs (i := (k).toNat) hsp
    obtain ⟨a, c, d, g, y0, z0, A0, n⟩ := O
    have p : i < os.length := (gsi_.1 v0).1
    have O := eB ho (i := i) v0
    obtain ⟨q, B, D, F, B0, C0, G, H⟩ := O
    have D0 := G
    obtain ⟨rfl, rfl, M⟩ := D0
    have a : (m).toNat < ss.length := (gsi_.1 w0).1
    have O := eB hs (i := (m).toNat) w0
    obtain ⟨c, d, g, n, p, P, R, S⟩ := O
    refine rd q0 s0 [] [(69, .bool (decide (sp.end_ < o0.begin_)))] [qxe y0 (e := k) aE, qrw z0 (Shape.len A0), qx B0, qr C0 0, qxe p (e := m) aE, qrw P (Shape.len R), qc func72 rfl (fun W s b => Ahead2S W (aR A0 s.below) (aR R s.below))] aD aD fun a c d E0 g => (aP (d.at 69) (fun F0 => ?_) (fun F0 => ?_))
    ·refine wp_seq (aA (sg (aG (aB (wr (bA results33 rfl ?_))))))
     exact ⟨(fB (lA hk (fun hz => ((hz.2.2 sp hsp).1 i hit m o0 v0 w0) F0)).symm), E0.bare⟩
    refine wp_skip (aA (rn E0 3 d [11] [(11, I ((i : Int) + 1))] [qad (i : Int) 1] aD fun a G0 => (aB ?_)))
    exact ⟨_, j - (i + 1), aE, rfl, i + 1, aE, (fun n0 p0 H0 J0 K0 L0 => by rcases Nat.lt_succ_iff_lt_or_eq.1 p0 with c | rfl; exact hin n0 c H0 J0 K0 L0; rw [v0] at K0; cases Option.some.inj K0; rw [w0] at L0; cases Option.some.inj L0; exact F0), rfl, (G0.to aD), E0⟩
   refine wp_exit (wp_seq ?_)
   have hij : i = j := by have := t0; omega
   have hall : ∀ i, i < j → ∀ m o0, os[i]? = some m → ss[m.toNat]? = some o0 → ¬ sp.end_ < o0.begin_ := by rw [hij] at hin; exact hin
   refine aA (sg (dD (vs := []) (cs := [I 0, I 0, I 0, I 0]) dJ aD (sg (aQ kA q0 ?_)))); intro M0 a c d
   refine sgn (aK aD rfl rfl (aC rfl (aC rfl (aC rfl (aC rfl bE)))) d bH rfl ?_); intro g N0
   refine aB (wp_seq ?_)
   have x0 : (k).toNat < ss.length := (gsi_.1 hsp).1
   have O := eB hs (i := (k).toNat) hsp
   obtain ⟨O0, P0, a, c, Q0, R0, n, p⟩ := O
   have S0 := n
   obtain ⟨T0, q, rfl, d, U0, rfl⟩ := S0
   refine cK 11 [(none, some 0, .is (Res.bx E J 34)), (some 0, some 10, .is (Res.bx E J 34)), (some 6, some 10, .of (ι := List Value × List Nat) [78] (fun ⟨V0, W0⟩ => [.tuple #[.agg V0.toArray, .agg #[I (doD (yTo ss y (os.take j)) sp.deed).2.code, I (doD (yTo ss y (os.take j)) sp.deed).2.run, I (doD (yTo ss y (os.take j)) sp.deed).2.task, I (doD (yTo ss y (os.take j)) sp.deed).2.try_]]]) (fun ⟨V0, W0⟩ => Res.own (α := Yard) (.agg V0.toArray) (doD (yTo ss y (os.take j)) sp.deed).1 W0)), (some 10, none, .of (ι := List Value) [78] (fun V0 => [.tuple #[.agg V0.toArray, .agg #[I (doD (yTo ss y (os.take j)) sp.deed).2.code, I (doD (yTo ss y (os.take j)) sp.deed).2.run, I (doD (yTo ss y (os.take j)) sp.deed).2.task, I (doD (yTo ss y (os.take j)) sp.deed).2.try_]]]) (fun V0 => Res.bx E V0 34)), (some 10, none, .of (ι := List Value × List Nat) [78] (fun ⟨V0, W0⟩ => [.tuple #[.agg V0.toArray, .agg #[I (doD (yTo ss y (os.take j)) sp.deed).2.code, I (doD (yTo ss y (os.take j)) sp.deed).2.run, I (doD (yTo ss y (os.take j)) sp.deed).2.task, I (doD (yTo ss y (os.take j)) sp.deed).2.try_]]]) (fun ⟨V0, W0⟩ => Res.own (α := Yard) (.agg V0.toArray) (doD (yTo ss y (os.take j)) sp.deed).1 W0))] [(false, .is (.agg J.toArray)), (true, .is (vs)), (true, .is (I k)), (true, .is (.pointer (some ⟨O0, P0, none⟩))), (true, .is (.pointer (some ⟨O0, P0 + 0, none⟩))), (true, .is (.agg #[I sp.deed.kind, I sp.deed.run, I sp.deed.plan.prio, I sp.deed.plan.most, I sp.deed.plan.wait, I sp.deed.plan.tasks, T0, I sp.deed.task, I sp.deed.try_, I sp.deed.worker, I sp.deed.draw])), (false, .ex (fun (V0 : List Value) => .tuple #[.agg V0.toArray, .agg #[I (doD (yTo ss y (os.take j)) sp.deed).2.code, I (doD (yTo ss y (os.take j)) sp.deed).2.run, I (doD (yTo ss y (os.take j)) sp.deed).2.task, I (doD (yTo ss y (os.take j)) sp.deed).2.try_]])), (true, .cp 78), (true, .pj 78 0), (true, .is (.agg #[I (doD (yTo ss y (os.take j)) sp.deed).2.code, I (doD (yTo ss y (os.take j)) sp.deed).2.run, I (doD (yTo ss y (os.take j)) sp.deed).2.task, I (doD (yTo ss y (os.take j)) sp.deed).2.try_])), (false, .is undef)] mix aD aD aD aD (rs0 := [Res.bx E J 34]) ⟨_, _, rfl, rfl, rfl⟩ N0.f2 N0.f2.below ⟨?_, (mq_ (s0.at 1)), (mq_ (s0.at 10)), (fun f W hst hbl hd hf => aT sG (hd 1 73 rfl rfl) Q0 (hd 2 74 rfl rfl) aE brq), (fun f W hst hbl hd hf => aN uE (hd 3 75 rfl rfl) brq), (fun f W hst hbl hd hf => fZ (cs := [I sp.deed.kind, I sp.deed.run, I sp.deed.plan.prio, I sp.deed.plan.most, I sp.deed.plan.wait, I sp.deed.plan.tasks, T0, I sp.deed.task, I sp.deed.try_, I sp.deed.worker, I sp.deed.draw]) gB rfl (hd 4 76 rfl rfl) R0 hst.below (i := 0) rfl rfl rfl brq), ?_, (fun f W hst hbl hd hf => by have X0 := hd 6 78 rfl rfl; obtain ⟨V0, O⟩ := X0; exact aH (v := .tuple #[.agg V0.toArray, .agg #[I (doD (yTo ss y (os.take j)) sp.deed).2.code, I (doD (yTo ss y (os.take j)) sp.deed).2.run, I (doD (yTo ss y (os.take j)) sp.deed).2.task, I (doD (yTo ss y (os.take j)) sp.deed).2.try_]]) O ⟨Below.refl _ _, O.symm⟩), (fun f W hst hbl hd hf => by have X0 := hd 6 78 rfl rfl; obtain ⟨V0, O⟩ := X0; exact fS ((hd 7 71 rfl rfl).trans O) rfl ⟨Below.refl _ _, (by show _ = prj 0 (f 78); rw [O]; rfl)⟩), (fun f W hst hbl hd hf => by have X0 := hd 6 78 rfl rfl; obtain ⟨V0, O⟩ := X0; exact fS ((hd 7 71 rfl rfl).trans O) rfl brq), ?_, trivial⟩ ?_
   ·intro f W ru oth hu hst hbl hd hf
    obtain ⟨_, _, rfl, rfl, Y0⟩ := hu
    have Y0 : _ = [] := Y0
    subst Y0
    try simp only [cap_, cL] at hst
    refine (aV aL rfl ((hf 8 rfl).trans (s0.at 8)) (hst.get 0 rfl) (Shape.len (bB (hst.get 3 rfl) rfl)) ?_)
    exact ⟨rfl, ⟨_, ⟨_, _, rfl, rfl, rfl⟩, hst⟩, hst.below⟩
   ·intro f W ru oth hu hst hbl hd hf
    have Y0 : ru = [] := hu
    subst Y0
    try simp only [cap_, cL] at hst
    refine (bN func73 rfl (hd 0 72 rfl rfl) (hd 5 77 rfl rfl) ((DoS W (bB (hst.get 2 rfl) rfl) (show Shape.C _ [I sp.deed.kind, I sp.deed.run, I sp.deed.plan.prio, I sp.deed.plan.most, I sp.deed.plan.wait, I sp.deed.plan.tasks, T0, I sp.deed.task, I sp.deed.try_, I sp.deed.worker, I sp.deed.draw] sp.deed _ from ⟨_, _, rfl, fF, (U0.below hst.below), rfl⟩) aE).mono ?_)); rintro _ t ⟨V0, W0, rfl, hokf137, a⟩; refine ⟨_, rfl, ?_⟩
    have c := St.call hst a
    exact ⟨⟨V0, rfl⟩, ⟨_, ⟨_, _, rfl, ⟨(V0, W0), (ce rfl rfl), rfl⟩, rfl⟩, c⟩, c.below⟩
   ·intro f W ru oth hu hst hbl hd hf
    obtain ⟨_, _, rfl, rfl, _, _, rfl, ⟨⟨V0, W0⟩, t, rfl⟩, Y0⟩ := hu
    have Y0 : _ = [] := Y0
    subst Y0
    have a : f 78 = .tuple #[.agg V0.toArray, .agg #[I (doD (yTo ss y (os.take j)) sp.deed).2.code, I (doD (yTo ss y (os.take j)) sp.deed).2.run, I (doD (yTo ss y (os.take j)) sp.deed).2.task, I (doD (yTo ss y (os.take j)) sp.deed).2.try_]] := congrArg (fun l => l.getD 0 undef) t
    try simp only [cap_, cL] at hst
    refine (aJ (cs := V0) aL (bB (hst.get 1 rfl) rfl) ((hf 8 rfl).trans (s0.at 8)) ((hd 8 79 rfl rfl).trans (by rw [a]; rfl)) hst (Shape.len (bB (hst.get 4 rfl) rfl)) ?_); intro c d
    exact ⟨rfl, ⟨_, ⟨_, _, rfl, ⟨V0, (ce a rfl), rfl⟩, _, _, rfl, ⟨(V0, W0), (ce a rfl), rfl⟩, rfl⟩, d⟩, d.below⟩
   intro Z0 t rs_ hAL_ a1 g b1 c1
   obtain ⟨_, _, rfl, ⟨V0, n, rfl⟩, _, _, rfl, ⟨⟨cs132z148, W0⟩, c, rfl⟩, Y0⟩ := hAL_
   have Y0 : _ = [] := Y0
   subst Y0
   have e1 : Z0 78 = .tuple #[.agg V0.toArray, .agg #[I (doD (yTo ss y (os.take j)) sp.deed).2.code, I (doD (yTo ss y (os.take j)) sp.deed).2.run, I (doD (yTo ss y (os.take j)) sp.deed).2.task, I (doD (yTo ss y (os.take j)) sp.deed).2.try_]] := congrArg (fun l => l.getD 0 undef) n
   have g1 : Z0 78 = .tuple #[.agg cs132z148.toArray, .agg #[I (doD (yTo ss y (os.take j)) sp.deed).2.code, I (doD (yTo ss y (os.take j)) sp.deed).2.run, I (doD (yTo ss y (os.take j)) sp.deed).2.task, I (doD (yTo ss y (os.take j)) sp.deed).2.try_]] := congrArg (fun l => l.getD 0 undef) c
   obtain rfl : V0 = cs132z148 := by have h_ := e1.symm.trans g1; first | exact h_ | (simp at h_; first | exact h_ | exact h_.1 | exact h_.2 | exact h_.1.1)
   try simp only [cap_, cL] at a1
   have t := a1.f2
   refine sgn (aK aD ((c1 12 rfl).trans (show _ = (pt_ M0 : Value) from rfl)) (b1 9 80 aZ rfl) (aC rfl (aC rfl (aC rfl (aC rfl bE)))) t bH rfl ?_); intro a c
   refine aB (wp_seq (rk 6 c (Ag.cons (show Z0 1 = vs from ((c1 1 rfl).trans (s0.at 1))) (Ag.cons (show Z0 2 = vo from ((c1 2 rfl).trans (s0.at 2))) (Ag.cons (show Z0 7 = (.slice (some ⟨A, 0, none⟩) ss.length ss.length) from ((c1 7 rfl).trans (s0.at 7))) (Ag.cons (show Z0 8 = pt_ E from ((c1 8 rfl).trans (s0.at 8))) (Ag.cons (show Z0 9 = I (j : Int) from ((c1 9 rfl).trans (s0.at 9))) (Ag.cons (show Z0 10 = I k from ((c1 10 rfl).trans (s0.at 10))) (Ag.cons (show Z0 12 = pt_ M0 from ((c1 12 rfl).trans (show _ = (pt_ M0 : Value) from rfl))) Ag.nil))))))) [] [(81, .agg #[I (doD (yTo ss y (os.take j)) sp.deed).2.code, I (doD (yTo ss y (os.take j)) sp.deed).2.run, I (doD (yTo ss y (os.take j)) sp.deed).2.task, I (doD (yTo ss y (os.take j)) sp.deed).2.try_]), (86, .agg #[I sp.reply.code, I sp.reply.run, I sp.reply.task, I sp.reply.try_])] [qb 0 rfl 0, qxe Q0 (e := k) aE, qr R0 13] aD aD fun t a c d g => (sg (wE (aE7 (doD (yTo ss y (os.take j)) sp.deed).2 sp.reply) aH0 (c.at 81) (c.at 86) (aB (bZ rfl (fun n => ?_) (fun n => ?_)))))))
   ·refine wp_seq (aA (sg (aG (aB (wr (bA results33 rfl ?_))))))
    exact ⟨(fB (lA hk (fun hz => absurd ((hz.2.2 sp hsp).2) (fun he => by have h_ := aY n; rw [he, dN rfl] at h_; cases h_))).symm), d.bare⟩
   refine wp_skip (aA (rn d 3 c.put [9] [(9, I ((j : Int) + 1))] [qad (j : Int) 1] aD fun t a => (aB ?_)))
   have g := d.f5
   have p := g.f4.f4.f4.d4.d4
   exact ⟨_, os.length - (j + 1), aE, rfl, j + 1, m0, V0, W0, aE, (aF6 hk hord ⟨hkr, hnk, fun s_ hs_ => by rw [hsp] at hs_; cases Option.some.inj hs_; exact ⟨hall, eqB_iff.1 (aX n)⟩⟩), rfl, (a.to aD), (by rw [← usedL_set hk hkr.1, aN7 hk hsp]; exact p)⟩
  have Y := cU (aY X)
  refine rc L 12 T [] [(49, .bool true)] [ql hs, qsb (ss.length : Int) 1, qc func43 rfl (fun W s b => cR W k 0 ((ss.length : Int) - 1)), qk X] aD fun t a c d g => (aB (gY (c.at 49) rfl (wp_seq (aA (sg (aG (aB (wr (bA results33 rfl ?_)))))))))
  exact ⟨(fB (lA hk (fun hz => by have g0 := inB_iff'.2 hz.1; have U := hz.2.1; simp_all)).symm), d.bare⟩
 refine wp_exit (wp_seq (aA (sg (aG (aB (wr (bA results33 rfl ?_)))))))
 have hje : j = os.length := by omega
 exact ⟨(fB (aF8 hlen.1 hlen.2 hje hord).symm), L.bare⟩
theorem orderedBy_law (cs0 : List Value) (x0 : Yard) (fp0 : List Nat) (hc0 : Shape.C w cs0 x0 fp0) (v1 : Value) (xs1 : List Span) (fp1 : List Nat) (hs1 : Sl w v1 xs1 fp1) (v2 : Value) (xs2 : List Int) (fp2 : List Nat) (hs2 : Sl w v2 xs2 fp2) :
  Calls prog 8 #[.agg cs0.toArray, v1, v2] w fun e w' => e = .returned (.bool true) ∧ Below w.heap.size w w' := by
 refine iS func8 rfl ntmps8 aZ (wp_seq (aA (sg (aI (cs := cs0) rfl (St.start w) ?_)))); intro t a c d
 refine sg (aG (aB (wp_seq (wp_seq (aA (rn d 3 Ag.nil.put.put.put.put.put [] [(15, .bool (decide (1048576 < (xs2.length : Int))))] [ql hs2, .o] aD fun f9 g => (aB (aP (g.at 15) (fun j => ?_) (fun j => ?_)))))))))
 ·refine wp_seq (aA (sg (aG (aB (wr (bA results8 rfl ?_))))))
  exact ⟨rfl, d.below⟩
 refine wp_skip (wp_seq (aA (sg (aG (aB (wp_seq (aA (rc d 4 g.put [7] [(7, I (szL 1048576 x0.wt))] [qw 0 rfl (Shape.len hc0), qc func15 rfl (fun W s b => szYard_n W (aR hc0 s.below) 1048576 aE aE)] aD fun a c j n p => (aB (wp_seq (wp_seq (aA ?_))))))))))))
 refine sg (aH (j.at 7) (sg (bU rfl rfl (aB (aP rfl (fun d => ?_) (fun d => ?_))))))
 ·have g := lE d aE
  refine wp_seq (aA (sg (aG (aB (wr (bA results8 rfl ?_))))))
  exact ⟨rfl, n.below⟩
 have g := lF d aE
 refine wp_skip (wp_seq (aA (rc n 4 j.put.put [7] [(7, I (szL (szL 1048576 x0.wt) (wtL (fun y : Span => y.wt) xs1)))] [qc func32 rfl (fun W s b => szSpanS_n W (hs1.below s.below) (szL 1048576 x0.wt) aE aE)] aD fun a c p g q => (aB (wp_seq (wp_seq (aA (sg (aH (p.at 7) (sg (bU rfl rfl (aB (aP rfl (fun d => ?_) (fun d => ?_))))))))))))))
 ·have j := lE d aE
  refine wp_seq (aA (sg (aG (aB (wr (bA results8 rfl ?_))))))
  exact ⟨rfl, g.below⟩
 have j := lF d aE
 refine wp_skip (wp_seq (aA (sg (aV xD rfl (p.at 3) (g.get 0 rfl) (Shape.len hc0) (sg (bC func17 rfl rfl ((vT c (aR hc0 g.below) (by first | exact hw | omega | (simp only [Plan.wt, Run.wt, Yard.wt, Deed.wt, Note.wt, File.wt, Disk.wt, Engine.wt, WorldD.wt, ActD.wt, Span.wt, Crew.wt] at *; omega))).mono ?_))))))); rintro _ a ⟨d, j, rfl, n⟩; refine ⟨_, rfl, ?_⟩
 have q := St.call g n
 refine sg (aH (p.at 1) (sg (bC func34 rfl rfl ((tN a (hs1.below q.below) (by first | exact hw | omega | (simp only [Plan.wt, Run.wt, Yard.wt, Deed.wt, Note.wt, File.wt, Disk.wt, Engine.wt, WorldD.wt, ActD.wt, Span.wt, Crew.wt] at *; omega))).mono ?_)))); rintro _ c ⟨g, n, rfl, z⟩; refine ⟨_, rfl, ?_⟩
 have A := St.call q z
 refine sg (aH (p.at 2) (sg (bC func24 rfl rfl ((vV c (hs2.below A.below) (by first | exact hw | omega | (simp only [Plan.wt, Run.wt, Yard.wt, Deed.wt, Note.wt, File.wt, Disk.wt, Engine.wt, WorldD.wt, ActD.wt, Span.wt, Crew.wt] at *; omega))).mono ?_)))); rintro _ a ⟨q, z, rfl, B⟩; refine ⟨_, rfl, ?_⟩
 have D := St.call A B
 refine lw p.put.put.put.put.put.put.put.put [(1, v1), (2, v2), (3, pt_ t), (27, .agg d.toArray), (29, g), (31, q)] aD fun c => (rc D 2 c [] [(8, .bool (jM x0 xs1 xs2))] [qc func33 rfl (fun W s b => OrderedByS W (bB (s.get 2 rfl) rfl) (aM (s.get 1 rfl)) (aM (s.get 0 rfl)) aE)] aD fun a p A B E => (aB (wp_seq (aA (sg (aV xD rfl (A.at 3) (B.get 3 rfl) (Shape.len hc0) (sg (bC func17 rfl rfl ((vT p (aR hc0 B.below) (by first | exact hw | omega | (simp only [Plan.wt, Run.wt, Yard.wt, Deed.wt, Note.wt, File.wt, Disk.wt, Engine.wt, WorldD.wt, ActD.wt, Span.wt, Crew.wt] at *; omega))).mono ?_))))))))); rintro _ a ⟨c, D, rfl, E⟩; refine ⟨_, rfl, ?_⟩
 have F := St.call B E
 refine sg (aQ cI F ?_); intro p G H J
 refine sgn (aJ (cs := c) aL (bB (J.get 1 rfl) rfl) rfl rfl J rfl ?_); intro a K
 refine aB (wp_seq (aA (sg (aH (A.at 1) (sg (bC func34 rfl rfl ((tN a (hs1.below K.below) (by first | exact hw | omega | (simp only [Plan.wt, Run.wt, Yard.wt, Deed.wt, Note.wt, File.wt, Disk.wt, Engine.wt, WorldD.wt, ActD.wt, Span.wt, Crew.wt] at *; omega))).mono ?_))))))); rintro _ B ⟨E, F, rfl, G⟩; refine ⟨_, rfl, ?_⟩
 have H := St.call K G
 refine sg (aF (v := E) rfl (aB (wp_seq (aA (sg (aH (A.at 2) (sg (bC func24 rfl rfl ((vV B (hs2.below H.below) (by first | exact hw | omega | (simp only [Plan.wt, Run.wt, Yard.wt, Deed.wt, Note.wt, File.wt, Disk.wt, Engine.wt, WorldD.wt, ActD.wt, Span.wt, Crew.wt] at *; omega))).mono ?_))))))))); rintro _ a ⟨G, J, rfl, K⟩; refine ⟨_, rfl, ?_⟩
 have L := St.call H K
 refine sg (aF (v := G) rfl (aB (wp_seq (aA (rc L 5 A.put.put.put.put.put.put.put.put.put [] [(12, .bool (jM x0 xs1 xs2))] [qw 2 rfl (Shape.len (bB (L.get 3 rfl) rfl)), qc func35 rfl (fun W s b => OrderedByI W (bB (s.get 3 rfl) rfl) (aM (s.get 1 rfl)) (aM (s.get 0 rfl)) aE)] aD fun a B H K M => (aB (wp_seq (wp_seq (aA (sg (aH (H.at 12) (sg (aH (H.at 8) (sg (stp_bneq underlying4 rfl rfl ?_)))))))))))))))
 refine aB (bZ rfl (fun A => ?_) (fun A => ?_))
 ·exact absurd (aY A) (by simp)
 refine wp_skip (wp_seq (wp_seq (cK 3 [(some 2, none, .of (ι := List Value × List Nat) [48] (fun ⟨a, A⟩ => [.agg a.toArray]) (fun ⟨a, A⟩ => Res.own (α := Yard) (.agg a.toArray) x0 A))] [(true, .is (.agg c.toArray)), (true, .is (.agg cs0.toArray)), (false, .ex (fun (a : List Value) => .agg a.toArray))] mix aD aD aD aD (rs0 := []) rfl K (Below.refl _ _) ⟨(fun f W hst hbl hd hf => aV aL rfl ((hf 9 rfl).trans (H.at 9)) (hst.get 2 rfl) (Shape.len (bB (hst.get 3 rfl) rfl)) brq), (fun f W hst hbl hd hf => aV xD rfl ((hf 3 rfl).trans (H.at 3)) (hst.get 7 rfl) (Shape.len hc0) brq), ?_, trivial⟩ ?_)))
 ·intro f W ru oth hu hst hbl hd hf
  have t : ru = [] := hu
  subst t
  try simp only [cap_, cL] at hst
  refine (bC func17 rfl (hd 1 47 rfl rfl) ((vT W (aR hc0 hst.below) (by first | exact hw | omega | (simp only [Plan.wt, Run.wt, Yard.wt, Deed.wt, Note.wt, File.wt, Disk.wt, Engine.wt, WorldD.wt, ActD.wt, Span.wt, Crew.wt] at *; omega))).mono ?_)); rintro _ d ⟨a, A, rfl, g⟩; refine ⟨_, rfl, ?_⟩
  have j := St.call hst g
  exact ⟨⟨a, rfl⟩, ⟨_, ⟨_, _, rfl, ⟨(a, A), (ce rfl rfl), rfl⟩, rfl⟩, j⟩, (hbl.trans (Below.mono g.below hbl.size))⟩
 intro n p rs_ hAL_ q z B d
 obtain ⟨_, _, rfl, ⟨⟨a, A⟩, D, rfl⟩, t⟩ := hAL_
 have t : _ = [] := t
 subst t
 have F : n 48 = .agg a.toArray := congrArg (fun l => l.getD 0 undef) D
 try simp only [cap_, cL] at q
 refine rc q 2 (Ag.cons (show n 1 = v1 from ((d 1 rfl).trans (H.at 1))) (Ag.cons (show n 2 = v2 from ((d 2 rfl).trans (H.at 2))) (Ag.cons (show n 10 = E from ((d 10 rfl).trans (H.at 10))) (Ag.cons (show n 11 = G from ((d 11 rfl).trans (H.at 11))) (Ag.cons (show n 46 = .agg c.toArray from (B 0 46 aZ rfl)) (Ag.cons (show n 48 = .agg a.toArray from F) Ag.nil)))))) [] [(50, .bool (!(eqB x0 x0)))] [qc func19 rfl (fun W s b => eqYard_n W (bB (s.get 4 rfl) rfl) (bB (s.get 0 rfl) rfl)), .o] aD fun t d g j p => (aB (bZ (g.at 50) (fun c => ?_) (fun c => ?_)))
 ·exact absurd (aY c) (by rw [dN rfl]; decide)
 refine wp_skip (wp_seq (wp_seq (aA (sg (aH (g.at 10) (sg (aH (g.at 1) (sg (bC func34 rfl rfl ((tN d (hs1.below j.below) (by first | exact hw | omega | (simp only [Plan.wt, Run.wt, Yard.wt, Deed.wt, Note.wt, File.wt, Disk.wt, Engine.wt, WorldD.wt, ActD.wt, Span.wt, Crew.wt] at *; omega))).mono ?_)))))))))); rintro _ t ⟨a, c, rfl, n⟩; refine ⟨_, rfl, ?_⟩
 have p := St.call j n
 refine rc p 2 g.put.put.put [] [(55, .bool (!(eqB xs1 xs1)))] [qc func36 rfl (fun W s b => eqSpanS_n W (aM (s.get 3 rfl)) (aM (s.get 0 rfl))), .o] aD fun d q z t a => (aB (bZ (z.at 55) (fun c => ?_) (fun c => ?_)))
 ·exact absurd (aY c) (by rw [dN rfl]; decide)
 refine wp_skip (wp_seq (wp_seq (aA (sg (aH (z.at 11) (sg (aH (z.at 2) (sg (bC func24 rfl rfl ((vV q (hs2.below t.below) (by first | exact hw | omega | (simp only [Plan.wt, Run.wt, Yard.wt, Deed.wt, Note.wt, File.wt, Disk.wt, Engine.wt, WorldD.wt, ActD.wt, Span.wt, Crew.wt] at *; omega))).mono ?_)))))))))); rintro _ a ⟨c, d, rfl, g⟩; refine ⟨_, rfl, ?_⟩
 have j := St.call t g
 refine rc j 2 z.put.put.put [] [(60, .bool (!(eqB xs2 xs2)))] [qc func26 rfl (fun W s b => eqIntS_n W (aM (s.get 3 rfl)) (aM (s.get 0 rfl))), .o] aD fun n p q a c => (aB (bZ (q.at 60) (fun d => ?_) (fun d => ?_)))
 ·exact absurd (aY d) (by rw [dN rfl]; decide)
 refine wp_skip (wp_seq (aA (sg (aG (aB (wr (bA results8 rfl ?_)))))))
 exact ⟨rfl, a.below⟩
end Go.Proofs.YtchnllpegfbleaaGreat
namespace Go.Proofs.YtchnllpegfbleaaGreat
set_option linter.unusedSimpArgs false
set_option linter.unusedVariables false
set_option maxRecDepth 100000
set_option maxHeartbeats 2000000
open Go.ChangeShapes Go.WideShapes Go.ChangeAt Go.RowKit Go.Deep
def jO (t : TypeId) (α : Type) [Shape α] : Prop := ∀ {H : Type} (enc : TypeId × Value → H) (w : World) (fuel : Nat) (cs : List Value) (x : DataW H × List MemPlace),
 DataW.trod enc Tryz.prog w 0 (fun _ => true) true fuel t cs = some x → ∃ (a : α) (fp : List Nat), Shape.C w cs a fp

theorem fA {n : Int} (h : (Lit.int .i64 n).wf = true) : I64 n := by
 have := bounds_i64 h
 exact this

theorem opens_int : jO 3 Int := by
 intro H enc w fuel cs x h
 obtain ⟨n, rfl, _, hw⟩ := DataW.trod_int Tryz.underlying3 h
 exact ⟨n, [], rfl, rfl, fA hw⟩

theorem iY {t e : TypeId} {α : Type} [Shape α] (ht : Tryz.prog.underlying t = some (.slice e)) (hC : Tryz.prog.cellsOf e = Shape.size α) (hp : 0 < Shape.size α) (he : jO e α) : jO t (List α) := by
 intro H enc w fuel cs x h
 rcases open_slice ht h with ⟨rfl, _⟩ | ⟨a, len, cap, m, n, D, Pl, rfl, _, hl, hm, hmm, _, hi⟩
 ·exact ⟨[], [], _, rfl, none, 0, rfl, Nat.le_refl _, by omega, .inl ⟨rfl, rfl⟩⟩
 simp only [if_true] at hmm
 subst hmm
 unfold maxLen at hm
 have key : ∀ k, k ≤ len → 0 < len → ∃ (xs : List α) (fp : List Nat), xs.length = k ∧ a.spot = none ∧ SlAt w a.block a.off xs fp := by
  intro k
  induction k with
  | zero =>
   intro _ hlp
   obtain ⟨cs', hc, _⟩ := hi 0 aE
   obtain ⟨_, hcl, hat⟩ := World.cells?_some hc
   rw [hC] at hcl hat
   have s := hat 0 hp
   have : a.spot = none := by
    have hlt : 0 < cs'.length := by omega
    rw [List.getElem?_eq_getElem hlt] at s
    simpa [Addr.add] using World.cell?_spot s
   exact ⟨[], [], rfl, this, rfl⟩
  | succ k ih =>
   intro hk hlp
   obtain ⟨xs, fp, hxl, hsp, hS⟩ := ih aE hlp
   obtain ⟨cs', hc, ht'⟩ := hi k aE
   obtain ⟨_, hcl, hat⟩ := World.cells?_some hc
   rw [hC] at hcl hat
   obtain ⟨x, f, hx⟩ := he enc w n cs' _ ht'
   refine ⟨xs ++ [x], fp ++ f, by simp [hxl], hsp, SlAt.snoc hS ?_ hx⟩
   intro j v hj
   have hjl : j < cs'.length := (gsi_.1 hj).1
   have := hat j aE
   rw [hj] at this
   rw [← this, hxl]
   obtain ⟨ab, ao, asp⟩ := a
   simp only at hsp
   subst hsp
   rw [Addr.add_mid, Addr.add_mid]
 by_cases hlp : 0 < len
 ·obtain ⟨xs, fp, hxl, hsp, hS⟩ := key len (Nat.le_refl _) hlp
  obtain ⟨ab, ao, asp⟩ := a
  simp only at hsp
  subst hsp
  subst hxl
  have hne : xs ≠ [] := by rintro rfl; simp at hlp
  refine ⟨xs, ab :: fp, _, rfl, _, m, rfl, hl, hm, .inr ⟨ab, ao, fp, hne, rfl, rfl, ?_, hS⟩⟩
  cases xs with
  | nil => exact absurd rfl hne
  | cons x xs =>
   obtain ⟨cs', f1, f2, hr, hc, _, _⟩ := hS
   have hl' := Shape.len hc
   have s := hr 0 _ (List.getElem?_eq_getElem aE)
   exact World.block_lt_of_cell? w _ s
 obtain rfl : len = 0 := by omega
 exact ⟨[], [], _, rfl, _, m, rfl, by simp, hm, .inl ⟨rfl, rfl⟩⟩

theorem qY {H : Type} {enc : TypeId × Value → H} {W W' : World} (hl : laidOutB Tryz.prog = true) (hb : Below W.heap.size W W') : ∀ {ts : List TypeId} {vs : List Value} {ds : List (DataW H)} {p : List MemPlace},
  (∀ t ∈ ts, Tryz.prog.readableRec t = true ∧ t < Tryz.prog.types.size) → DataW.TrodAll enc Tryz.prog W 0 (fun _ => true) true ts vs ds p → (∀ x ∈ p, x.block < W.heap.size) →
  DataW.TrodAll enc Tryz.prog W' 0 (fun b => decide (b < W.heap.size)) true ts vs ds p
 | [], _, _, _, _, h, _ => by
  obtain ⟨rfl, rfl, rfl⟩ := trodAll_nil h
  exact trodAll_mk0
 | t :: ts, _, _, _, ht, h, hp => by
  obtain ⟨v1, vs1, d1, ds1, p1, q1, rfl, rfl, rfl, h1, r1⟩ := trodAll_cons h
  exact trodAll_cons_mk (Below.trod hl (ht t (by simp)).1 (ht t (by simp)).2 h1 hb (fun x hx => hp x (by simp [hx]))) (qY hl hb (fun t' h' => ht t' (by simp [h'])) r1 (fun x hx => hp x (by simp [hx])))

theorem nM {H : Type} {enc : TypeId × Value → H} {W : World} {base : Nat} {t e : TypeId} {α : Type} [Shape α] (ht : Tryz.prog.underlying t = some (.slice e)) (ho : jO t (List α)) {v : Value} {d : DataW H} {p : List MemPlace}
  (hv : Value.okWide Tryz.prog W .any base t v) (h : DataW.Trod enc Tryz.prog W 0 (fun _ => true) true t v d p) : ∃ (xs : List α) (fp : List Nat), Sl W v xs fp := by
 obtain ⟨a, len, cap, rfl⟩ := okWide_slice ht hv
 obtain ⟨fuel, hf⟩ := h
 obtain ⟨xs, fp, v', hv', hs⟩ := ho enc W fuel _ _ hf
 have : v' = .slice a len cap := (List.singleton_inj.1 hv').symm
 subst this
 exact ⟨xs, fp, hs⟩
theorem open_param_struct {H : Type} {enc : TypeId × Value → H} {W : World} {base : Nat} {t : TypeId} {fs : Array Field} {α : Type} [Shape α] (ht : Tryz.prog.underlying t = some (.struct fs)) (ho : jO t α) {v : Value} {d : DataW H} {p : List MemPlace}
  (hv : Value.okWide Tryz.prog W .any base t v) (h : DataW.Trod enc Tryz.prog W 0 (fun _ => true) true t v d p) : ∃ (cs : List Value) (x : α) (fp : List Nat), v = .agg cs.toArray ∧ Shape.C W cs x fp := by
 obtain ⟨cs, rfl, hsz⟩ := okWide_struct ht hv
 obtain ⟨fuel, hf⟩ := h
 obtain ⟨x, fp, hc⟩ := ho enc W fuel _ _ hf
 exact ⟨cs.toList, x, fp, rfl, hc⟩
theorem ownKnobTry : ownKnob Tryz.prog.godebug = none := by kernel_rfl
theorem laidOutTry : laidOutB Tryz.prog = true := by kernel_rfl
end Go.Proofs.YtchnllpegfbleaaGreat
