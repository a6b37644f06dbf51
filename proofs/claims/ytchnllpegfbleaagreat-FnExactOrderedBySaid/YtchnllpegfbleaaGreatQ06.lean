/-
  A task that is done, of both.
  What is told of a task, of both.
  A task that failed, of both.
  Slices of entries owned, by their block; clear.
  Shelves that are halved, merged, taken from, of both.
  Shelves that are swept, of both.
  A block whose ways out meet; two results in cells; one element, one place. Theory alone.
  What a worker is given, of both.
  Tasks that are late, yards whose time goes on. Theory alone.
-/
import Derived.Test.YtchnllpegfbleaaGreatQ01
import Derived.Test.YtchnllpegfbleaaGreatQ02
import Derived.Test.YtchnllpegfbleaaGreatQ03
import Derived.Test.YtchnllpegfbleaaGreatQ04
import Derived.Test.YtchnllpegfbleaaGreatQ05
namespace Go.Proofs.YtchnllpegfbleaaGreat
set_option linter.unusedSimpArgs false
set_option linter.unusedVariables false
set_option maxRecDepth 100000
set_option maxHeartbeats 2000000
open Go.RowKit Go.Proofs.Tryz List
variable (w : World) {cs ds : List Value} {fp gp : List Nat}
theorem mA {i : Int} (h : 0 ≤ i) : ((i.toNat : Nat) : Int) = i := by omega
theorem RunIs.ilen {r : Run} (h : RunIs r) : r.plan.tasks = (r.tasks.length : Int) := h.len.symm
noncomputable def jP (r : Run) (task : Int) : Run := if mF r task then gV r task.toNat else r
theorem wM {r : Run} (h : RunIs r) {task : Int} {t : Task} (h0 : 0 ≤ task) (ht : r.tasks[task.toNat]? = some t) (h3 : t.state = 3) : jP r task = gV r task.toNat := by
 have hl := (gsi_.1 ht).1
 have hb : mF r task = true := by
  unfold mF
  rw [runIs.2 h, inB_iff'.2 (show 0 ≤ task ∧ task ≤ (r.tasks.length : Int) - 1 by omega), ht]
  simp [h3]
 unfold jP
 rw [if_pos hb]

theorem DoneI {w W0 : World} {ty : TypeId} {rs : List Res} {b : Nat} {pre cs post : List Value} {r : Run} {fp : List Nat} (hst : St w W0 (Res.bx b (pre ++ cs ++ post) ty :: Res.own (.agg cs.toArray) r fp :: rs)) (task : Int) {t : Task} (h0 : 0 ≤ task) (hti : r.tasks[(task).toNat]? = some t) (hRI : RunIs r) :
  Calls prog 129 #[.pointer (some ⟨b, pre.length, none⟩), I task] W0 fun e w' => ∃ (cs' : List Value) (fp' : List Nat), e = .returned (.tuple #[]) ∧ St w w' (Res.bx b (pre ++ cs' ++ post) ty :: Res.own (.agg cs'.toArray) (gV r (task).toNat) fp' :: rs) := by
 have hil := (gsi_.1 hti).1
 have hrok : r.ok := hRI.small.1
 have hsm := hRI.small
 have hbl := yC r.plan task
 have hle := hRI.ilen
 refine bY func129 rfl ntmps129 aZ (wp_seq (aA ?_))
 have s := hst.f1
 have a := iZ s
 obtain ⟨c, d, g, n, p, q, z⟩ := a
 subst p
 refine rn z 5 Ag.nil.put.put [] [(10, d), (11, I task)] [qp 2 rfl 7] aD fun f7 A => ?_
 have a := St.lendx (α := Task) aZ z.f1 (x := t) hti
 obtain ⟨B, D, E, F, post9, s, G, H, J, K⟩ := a
 obtain ⟨L, n, q⟩ := J; have L : _ = [I t.state, I t.need, I t.try_, I t.until_] := L; subst L
 refine sg (aT gH (A.at 10) H (A.at 11) aE (sg (aN jE rfl (sgn (bS (i := 0) (v := I 4) aD rfl rfl rfl rfl K.d1 rfl bH rfl ?_))))); intro s n
 refine aB (wp_seq (aA (rn n 7 A.put.put [] [(20, .pointer (some ⟨B, E.length + 3, none⟩))] [qp 3 rfl 7, qxe H (e := task) aE] aD fun p q => (sgn (bS (i := 3) (v := I 0) aD (q.at 20) rfl rfl rfl n rfl bH rfl ?_))))); intro s z
 refine aB (wp_seq (wp_seq (aA (sg (aH (q.at 0) (sg (gP rfl ?_)))))))
 have p := z.cs0 (cs := [I 4, I t.need, I t.try_, I 0]) (x := (⟨4, t.need, t.try_, 0⟩ : Task)) ⟨rfl, rfl, fF⟩
 have a := St.give (α := Task) p.f2.f1.f2
 obtain ⟨n, A⟩ := a
 refine rn A 3 q.put.put [] [(24, .agg #[I r.plan.prio, I r.plan.most, I r.plan.wait, I r.plan.tasks, c]), (25, I task)] [qp 2 rfl 1] aD fun z B => (sg (bN func188 rfl (B.at 24) (B.at 25) ((BehindOfI s (show Shape.C _ [I r.plan.prio, I r.plan.most, I r.plan.wait, I r.plan.tasks, c] r.plan _ from ⟨_, _, rfl, fF, (aM (A.get 1 rfl)), rfl⟩) task).mono ?_))); rintro _ p ⟨M, N, rfl, q⟩; refine ⟨_, rfl, ?_⟩
 have z := St.call A q
 refine sg (eY eG rfl (aM (z.get 0 rfl)) (sg (aH (v := I 0) rfl (aB (wp_block (bF (fun (m : Nat) (f : Nat → Value) (W : World) => ∃ (j : Nat) (O : List Nat), j ≤ (dH r.plan task).length ∧ m = (dH r.plan task).length - j ∧ Ag [(0, .pointer (some ⟨b, pre.length, none⟩)), (26, M), (27, I ((dH r.plan task).length : Int)), (28, I (j : Int))] f ∧ St w W (Res.own (α := List Int) M (dH r.plan task) N :: Res.own (α := List Task) d (lG (r.tasks.set (task).toNat ⟨4, t.need, t.try_, 0⟩) ((dH r.plan task).take j)) O :: Res.own (α := List Edge) c r.plan.edges g :: Res.bx b (pre ++ [I r.id, I r.plan.prio, I r.plan.most, I r.plan.wait, I r.plan.tasks, c, I r.state, d] ++ post) ty :: rs)) ((dH r.plan task).length - 0) ?_ ?_))))))
 ·exact ⟨0, n, Nat.zero_le _, rfl, (B.put.put.put.to aD), (by rw [aA0]; exact z)⟩
 intro s p P q
 obtain ⟨j, O, A, rfl, R, S⟩ := q
 refine wp_seq (aA (sg (bU (R.at 28) (R.at 27) (aB (wp_seq (aP rfl (fun D => ?_) (fun D => ?_)))))))
 ·refine wp_skip (wp_seq (wp_block (wp_seq (aA ?_))))
  have a := dW (xs := (dH r.plan task)) (i := j) aE
  obtain ⟨kb, hkb⟩ := a
  have s : j < (dH r.plan task).length := (gsi_.1 hkb).1
  have a := eB (aM (S.get 0 rfl)) (i := j) hkb
  obtain ⟨n, p, q, z, T, U, A, B⟩ := a
  have X := A
  obtain ⟨rfl, rfl, D⟩ := X
  refine rn S 3 R.put [] [(5, I kb)] [qx T, qn U 0] aD fun s E => (aB (wp_seq (aA (rn S 5 E [] [(35, d), (36, I kb)] [qp 3 rfl 7] aD fun n Y => ?_))))
  have hkr := yB r.plan task kb (mem_of_getElem? hkb)
  have hql := pT (r.tasks.set (task).toNat ⟨4, t.need, t.try_, 0⟩) ((dH r.plan task).take j)
  rw [length_set] at hql
  have a := dW (xs := lG (r.tasks.set (task).toNat ⟨4, t.need, t.try_, 0⟩) ((dH r.plan task).take j)) (i := (kb).toNat) aE
  obtain ⟨u, huu⟩ := a
  have hun := zR hRI hti ((dH r.plan task).take j) (by rw [length_take]; omega) u (mem_of_getElem? huu)
  have a := St.lendx (α := Task) aZ S.f1 (x := u) huu
  obtain ⟨Z, s, a0, n, post58, p, q, b0, z, c0⟩ := a
  obtain ⟨e0, A, B⟩ := z; have e0 : _ = [I u.state, I u.need, I u.try_, I u.until_] := e0; subst e0
  refine sg (aT gH (Y.at 35) b0 (Y.at 36) aE (sg (aF (v := .pointer (some ⟨Z, a0.length, none⟩)) rfl (aB (wp_seq (aA (rn c0.d1 7 Y.put.put [] [(42, I (u.need - 1)), (44, .pointer (some ⟨Z, a0.length + 1, none⟩))] [qp 0 rfl 1, qsb u.need 1] aD fun s n => (sgn (bS (i := 1) (v := I (u.need - 1)) aD (n.at 44) (n.at 42) rfl rfl c0.d1 rfl bH rfl ?_))))))))); intro p q
  refine aB (wp_seq (aA (rn q 5 n [] [(49, .bool (decide ((u.need - 1) = 0)))] [qp 0 rfl 1, .o] aD fun s z => (aB (aP (z.at 49) (fun A => ?_) (fun A => ?_))))))
  ·refine aA (rn q 3 z [] [(52, .pointer (some ⟨Z, a0.length, none⟩))] [] aD fun B D => (sgn (bS (i := 0) (v := I 2) aD (D.at 52) rfl rfl rfl q rfl bH rfl ?_))); intro s n
   refine aB (aA (sg (bO (D.at 28) rfl dL (sg (aH (v := I ((j : Int) + 1)) rfl (aB ?_))))))
   have p := n.cs0 (cs := [I 2, I (u.need - 1), I u.try_, I u.until_]) (x := (⟨2, u.need - 1, u.try_, u.until_⟩ : Task)) ⟨rfl, rfl, fF⟩
   have a := St.give (α := Task) p.f2.f1.f2
   obtain ⟨s, B⟩ := a
   exact ⟨_, (dH r.plan task).length - (j + 1), aE, rfl, j + 1, s, aE, rfl, (D.put.put.to aD), (by rw [vP hkb huu (aL2 A)]; exact B.f3.f3.f2.f3)⟩
  refine wp_skip (aA (sg (bO (z.at 28) rfl dL (sg (aH (v := I ((j : Int) + 1)) rfl (aB ?_))))))
  have n := q.cs0 (cs := [I u.state, I (u.need - 1), I u.try_, I u.until_]) (x := (⟨u.state, u.need - 1, u.try_, u.until_⟩ : Task)) ⟨rfl, rfl, fF⟩
  have a := St.give (α := Task) n.f2.f1.f2
  obtain ⟨s, p⟩ := a
  exact ⟨_, (dH r.plan task).length - (j + 1), aE, rfl, j + 1, s, aE, rfl, (z.put.put.to aD), (by rw [vP hkb huu (aL1 A)]; exact p.f3.f3.f2.f3)⟩
 refine wp_exit (wp_seq (cK 10 [(some 3, some 4, .of (ι := Value × List Nat) [57] (fun ⟨f0, g0⟩ => [f0]) (fun ⟨f0, g0⟩ => Res.own (α := List Int) f0 (bI (⟨r.id, ⟨r.plan.prio, r.plan.most, r.plan.wait, r.plan.tasks, r.plan.edges⟩, r.state, lG (r.tasks.set (task).toNat ⟨4, t.need, t.try_, 0⟩) ((dH r.plan task).take j)⟩ : Run).tasks 4) g0)), (some 4, none, .of (ι := Value × List Nat) [57] (fun ⟨f0, g0⟩ => [f0]) (fun ⟨f0, g0⟩ => Res.own (α := List Int) f0 (bI (⟨r.id, ⟨r.plan.prio, r.plan.most, r.plan.wait, r.plan.tasks, r.plan.edges⟩, r.state, lG (r.tasks.set (task).toNat ⟨4, t.need, t.try_, 0⟩) ((dH r.plan task).take j)⟩ : Run).tasks 4) g0))] [(true, .is (.pointer (some ⟨b, pre.length, none⟩))), (true, .is (.pointer (some ⟨b, pre.length, none⟩))), (true, .is (.agg #[I r.id, I r.plan.prio, I r.plan.most, I r.plan.wait, I r.plan.tasks, c, I r.state, d])), (false, .ex (fun (f0 : Value) => f0)), (false, .is (I ((bI (⟨r.id, ⟨r.plan.prio, r.plan.most, r.plan.wait, r.plan.tasks, r.plan.edges⟩, r.state, lG (r.tasks.set (task).toNat ⟨4, t.need, t.try_, 0⟩) ((dH r.plan task).take j)⟩ : Run).tasks 4).length : Int))), (true, .is (.pointer (some ⟨b, pre.length, none⟩))), (true, .is (.pointer (some ⟨b, pre.length, none⟩))), (true, .is (.pointer (some ⟨b, pre.length + 7, none⟩))), (true, .is (d)), (true, .is (I ((lG (r.tasks.set (task).toNat ⟨4, t.need, t.try_, 0⟩) ((dH r.plan task).take j)).length : Int)))] mix aD aD aD aD (rs0 := []) rfl S (Below.refl _ _) ⟨(mq_ (R.at 0)), (fun f W hst hbl hd hf => gP (hd 0 54 rfl rfl) brq), (fun f W hst hbl hd hf => sD (cs := [I r.id, I r.plan.prio, I r.plan.most, I r.plan.wait, I r.plan.tasks, c, I r.state, d]) bP rfl (hd 1 55 rfl rfl) (hst.get 3 rfl) (i := 0) rfl rfl rfl brq), ?_, ?_, (mq_ (R.at 0)), (fun f W hst hbl hd hf => gP (hd 5 59 rfl rfl) brq), (fun f W hst hbl hd hf => aN hH (hd 6 60 rfl rfl) brq), (fun f W hst hbl hd hf => gR pN rfl (hd 7 61 rfl rfl) (hst.get 3 rfl) (i := 7) rfl rfl brq), (fun f W hst hbl hd hf => eY gH (hd 8 62 rfl rfl) (aM (hst.get 1 rfl)) brq), trivial⟩ ?_))
 ·intro f W ru oth hu hst hbl hd hf
  have j0 : ru = [] := hu
  subst j0
  try simp only [cap_, cL] at hst
  refine (bN func162 rfl (hd 2 56 rfl rfl) rfl ((mP W (show Shape.C _ [I r.id, I r.plan.prio, I r.plan.most, I r.plan.wait, I r.plan.tasks, c, I r.state, d] (⟨r.id, ⟨r.plan.prio, r.plan.most, r.plan.wait, r.plan.tasks, r.plan.edges⟩, r.state, lG (r.tasks.set (task).toNat ⟨4, t.need, t.try_, 0⟩) ((dH r.plan task).take j)⟩ : Run) _ from ⟨_, _, _, _, rfl, fF, (aM (hst.get 2 rfl)), (aM (hst.get 1 rfl)), rfl⟩) 4 (show (lG _ _).length ≤ 1048576 from by rw [pT, length_set]; omega)).mono ?_)); rintro _ s ⟨f0, g0, rfl, a⟩; refine ⟨_, rfl, ?_⟩
  have g := St.call hst a
  exact ⟨⟨f0, rfl⟩, ⟨_, ⟨_, _, rfl, ⟨(f0, g0), (ce rfl rfl), rfl⟩, rfl⟩, g⟩, (hbl.trans (Below.mono a.below hbl.size))⟩
 ·intro f W ru oth hu hst hbl hd hf
  obtain ⟨_, _, rfl, ⟨⟨f0, g0⟩, s, rfl⟩, j0⟩ := hu
  have j0 : _ = [] := j0
  subst j0
  have n : f 57 = f0 := congrArg (fun l => l.getD 0 undef) s
  try simp only [cap_, cL] at hst
  refine (eY eG n (aM (hst.get 0 rfl)) ?_)
  exact ⟨rfl, ⟨_, ⟨_, _, rfl, ⟨(f0, g0), (ce n rfl), rfl⟩, rfl⟩, hst⟩, (hbl.trans (Below.mono (Below.refl _ _) hbl.size))⟩
 intro a g rs_ hAL_ s p q z
 obtain ⟨_, _, rfl, ⟨⟨f0, g0⟩, A, rfl⟩, j0⟩ := hAL_
 have j0 : _ = [] := j0
 subst j0
 have B : a 57 = f0 := congrArg (fun l => l.getD 0 undef) A
 try simp only [cap_, cL] at s
 refine sg (dC (q 4 58 aZ rfl) (q 9 63 aZ rfl) (aB (aP rfl (fun g => ?_) (fun g => ?_))))
 ·refine aA (rn s 3 (Ag.cons (show a 0 = .pointer (some ⟨b, pre.length, none⟩) from ((z 0 rfl).trans (R.at 0))) Ag.nil).put [] [(67, .pointer (some ⟨b, pre.length + 6, none⟩))] [] aD fun n p => ?_)
  have A := s.f4
  refine sgn (bS (i := 6) (v := I 2) aD (p.at 67) rfl rfl rfl A rfl bH rfl ?_); intro a q
  refine aB ?_
  repeat (first | refine iO ?_ | refine jN ?_ | refine iP rfl ?_)
  refine yK results129 ?_
  have hje : j = (dH r.plan task).length := by omega
  have hDe : lG (r.tasks.set (task).toNat ⟨4, t.need, t.try_, 0⟩) ((dH r.plan task).take j) = eA r (task).toNat t := by rw [hje, take_length]; unfold eA; rw [mA h0]
  have hcn : (cW (eA r (task).toNat t) 4 = ((eA r (task).toNat t).length : Int)) := by have hp_ := g; rw [← hDe, ← kX]; exact hp_
  have hfT : gV r (task).toNat = (⟨r.id, r.plan, 2, eA r (task).toNat t⟩ : Run) := by rw [tC hti]; unfold aH1; rw [if_pos hcn]
  rw [hDe] at q
  have a := q.f3
  have c := eP (x := (⟨r.id, r.plan, 2, eA r (task).toNat t⟩ : Run)) a.f4 (show Run.ok _ from by have hrk := hrok; simp only [Run.ok, Plan.ok, I64] at *; omega)
  try dsimp only at c
  have d := c.f1
  rw [hfT]
  exact ⟨_, _, rfl, d.d2.d2⟩
 refine wp_skip ?_
 repeat (first | refine iO ?_ | refine jN ?_ | refine iP rfl ?_)
 refine yK results129 ?_
 have hje : j = (dH r.plan task).length := by omega
 have hDe : lG (r.tasks.set (task).toNat ⟨4, t.need, t.try_, 0⟩) ((dH r.plan task).take j) = eA r (task).toNat t := by rw [hje, take_length]; unfold eA; rw [mA h0]
 have hcn : ¬ (cW (eA r (task).toNat t) 4 = ((eA r (task).toNat t).length : Int)) := by have hp_ := g; rw [← hDe, ← kX]; exact hp_
 have hfT : gV r (task).toNat = (⟨r.id, r.plan, r.state, eA r (task).toNat t⟩ : Run) := by rw [tC hti]; unfold aH1; rw [if_neg hcn]
 rw [hDe] at s
 have a := s.f2
 have c := eP (x := (⟨r.id, r.plan, r.state, eA r (task).toNat t⟩ : Run)) a.f3 (show Run.ok _ from by have hrk := hrok; simp only [Run.ok, Plan.ok, I64] at *; omega)
 try dsimp only at c
 have d := c.f3
 rw [hfT]
 exact ⟨_, _, rfl, d.d2.d2⟩
theorem RunDoneS {r : Run} (hc : Shape.C w cs r fp) (task : Int) (hw : r.wt ≤ 1048576) :
  Calls prog 120 #[.agg cs.toArray, I task] w (rO_ (jP r task) w) := by
 have hrw : r.tasks.length ≤ r.wt := by unfold Run.wt; omega
 refine bY func120 rfl ntmps120 aZ (wp_seq (aA (sg (aI (cs := cs) rfl (St.start w) ?_)))); intro a c d g
 refine sg (aQ fN g ?_); intro n p q z
 refine aB (wp_seq (aA (sg (aV bP rfl rfl (z.get 1 rfl) (Shape.len hc) (sg (bC func136 rfl rfl ((pW p (aR hc z.below) aE).mono ?_))))))); rintro _ c ⟨d, A, rfl, B⟩; refine ⟨_, rfl, ?_⟩
 have g := St.call z B
 refine sg (aQ fN g ?_); intro D q E F
 refine sgn (aJ (cs := d) bP (bB (F.get 1 rfl) rfl) rfl rfl F rfl ?_); intro c p
 refine aB (wp_seq (wp_seq (aA (rc p 4 Ag.nil.put.put.put.put.put.put.put [] [(14, .bool (!(mF r task)))] [qw 3 rfl (Shape.len hc), qc func169 rfl (fun W s b => RunsS W (aR hc s.below) task aE), .o] aD fun g q G z A => (aB (bZ (G.at 14) (fun H => ?_) (fun H => ?_)))))))
 ·refine wp_seq (aA (sg (aV bP rfl (G.at 5) (z.get 0 rfl) (Shape.len (bB (z.get 1 rfl) rfl)) (sgn (aJ (cs := d) bP (bB (z.f2.get 2 rfl) rfl) (G.at 4) rfl z.f2 rfl ?_))))); intro c g
  refine aB (wr (eT bP rfl results120 (G.at 4) (g.get 0 rfl) (Shape.len (bB (g.get 2 rfl) rfl)) ?_))
  have hfe : jP r task = r := by unfold jP; rw [(aY H)]; rfl
  rw [hfe]
  exact ⟨_, _, rfl, g.f2.d1.d1.d1⟩
 refine wp_skip (wp_seq (aA ?_))
 have J := iZ z.f1
 obtain ⟨K, L, M, c, N, d, O⟩ := J
 subst N
 refine rn O 3 G [] [(17, L), (18, I task)] [qb 2 rfl 7] aD fun p P => ?_
 have q := (aX H)
 have J := aE8 q
 obtain ⟨hRI, t, R, hti, S⟩ := J
 have hil := (gsi_.1 hti).1
 have hsm := hRI.small
 have hbl := yC r.plan task
 have hle := hRI.ilen
 have hpf := lI hRI.plan
 obtain ⟨hM, hE, c, d⟩ := hpf
 have hMb := pM hM
 have hbe : dH r.plan task = (dK (tos r.plan.edges task)) := by unfold dH; rw [if_pos hRI.plan]
 rw [hbe] at hbl
 have J := St.lendx (α := Task) aZ O.f1 (x := t) hti
 obtain ⟨T, g, U, p, post49, c, d, X, q, Y⟩ := J
 obtain ⟨Z, z, A⟩ := q; have Z : _ = [I t.state, I t.need, I t.try_, I t.until_] := Z; subst Z
 refine sg (aT gH (P.at 17) X (P.at 18) aE (sg (aN jE rfl (sgn (bS (i := 0) (v := I 4) aD rfl rfl rfl rfl Y.d1 rfl bH rfl ?_))))); intro c d
 refine aB (wp_seq (aA (rn d 5 P.put.put [] [(25, .pointer (some ⟨T, U.length + 3, none⟩))] [qb 3 rfl 7, qxe X (e := task) aE] aD fun g a0 => (sgn (bS (i := 3) (v := I 0) aD (a0.at 25) rfl rfl rfl d rfl bH rfl ?_))))); intro b0 c
 refine aB (wp_seq (aA ?_))
 have p := c.cs0 (cs := [I 4, I t.need, I t.try_, I 0]) (x := (⟨4, t.need, t.try_, 0⟩ : Task)) ⟨rfl, rfl, fF⟩
 have J := St.give (α := Task) p.f2.f1.f2
 obtain ⟨c0, e0⟩ := J
 have f0 := hc
 obtain ⟨g0, h0, d, g, rfl, q, z, A, rfl⟩ := f0
 refine rn e0 3 a0 [] [(27, .agg #[I r.plan.prio, I r.plan.most, I r.plan.wait, I r.plan.tasks, g0]), (28, I task)] [qb 4 rfl 1] aD fun c B => (sg (bN func185 rfl (B.at 27) (B.at 28) ((BehindE b0 (show Shape.C _ [I r.plan.prio, I r.plan.most, I r.plan.wait, I r.plan.tasks, g0] r.plan _ from ⟨_, _, rfl, fF, (z.below e0.below), rfl⟩) task aE aE hE).mono ?_))); rintro _ d ⟨j0, k0, rfl, c⟩; refine ⟨_, rfl, ?_⟩
 have g := St.call e0 c
 refine sg (aF (v := j0) rfl (aB (wp_seq (wp_seq (aA (sg (aG (aB (wp_block (bF (fun (m : Nat) (f : Nat → Value) (W : World) => ∃ (j : Nat) (l0 : List Nat), j ≤ (dK (tos r.plan.edges task)).length ∧ m = (dK (tos r.plan.edges task)).length - j ∧ Ag [(4, pt_ n), (5, pt_ D), (6, j0), (7, I (j : Int))] f ∧ St w W ([Res.own (α := List Int) j0 (dK (tos r.plan.edges task)) k0, Res.own (α := List Task) L (lG (r.tasks.set (task).toNat ⟨4, t.need, t.try_, 0⟩) ((dK (tos r.plan.edges task)).take j)) l0, Res.own (α := List Edge) K r.plan.edges M, Res.bx D [I r.id, I r.plan.prio, I r.plan.most, I r.plan.wait, I r.plan.tasks, K, I r.state, L] 123, Res.bx n [I 0, I 0, I 0, I 0, I 0, .slice none 0 0, I 0, .slice none 0 0] 123, Res.bx a [I r.id, I r.plan.prio, I r.plan.most, I r.plan.wait, I r.plan.tasks, g0, I r.state, h0] 123])) ((dK (tos r.plan.edges task)).length - 0) ?_ ?_))))))))))
 ·exact ⟨0, c0, Nat.zero_le _, rfl, (B.put.put.put.to aD), (by rw [aA0]; exact g)⟩
 intro c d m0 p
 obtain ⟨j, l0, q, rfl, z, n0⟩ := p
 refine wp_seq (wp_seq (aA (rn n0 4 z [] [(33, .bool (decide ((j : Int) < ((dK (tos r.plan.edges task)).length : Int))))] [ql (aM (n0.get 0 rfl)), .o] aD fun A o0 => (aB (aP (o0.at 33) (fun g => ?_) (fun g => ?_))))))
 ·refine wp_skip (wp_seq (wp_block (wp_seq ?_)))
  have J := dW (xs := (dK (tos r.plan.edges task))) (i := j) aE
  obtain ⟨kb, hkb⟩ := J
  have hkr := yB r.plan task kb (by rw [hbe]; exact mem_of_getElem? hkb)
  have hql := pT (r.tasks.set (task).toNat ⟨4, t.need, t.try_, 0⟩) ((dK (tos r.plan.edges task)).take j)
  rw [length_set] at hql
  have J := dW (xs := lG (r.tasks.set (task).toNat ⟨4, t.need, t.try_, 0⟩) ((dK (tos r.plan.edges task)).take j)) (i := (kb).toNat) aE
  obtain ⟨u, huu⟩ := J
  have hun := zR hRI hti ((dK (tos r.plan.edges task)).take j) (by rw [length_take]; omega) u (mem_of_getElem? huu)
  have p0 : j < (dK (tos r.plan.edges task)).length := (gsi_.1 hkb).1
  have J := eB (aM (n0.get 0 rfl)) (i := j) hkb
  obtain ⟨q0, s0, c, d, t0, v0, g, p⟩ := J
  have w0 := g
  obtain ⟨rfl, rfl, q⟩ := w0
  have z : (kb).toNat < (lG (r.tasks.set (task).toNat ⟨4, t.need, t.try_, 0⟩) ((dK (tos r.plan.edges task)).take j)).length := (gsi_.1 huu).1
  have J := eB (aM (n0.get 1 rfl)) (i := (kb).toNat) huu
  obtain ⟨x0, y0, c, d, z0, A0, p, A⟩ := J
  have B0 := p
  obtain ⟨C0, rfl, g⟩ := B0
  have C0 : _ = [I u.state, I u.need, I u.try_, I u.until_] := C0
  subst C0
  refine cK 9 [(some 8, none, .of (ι := Nat) [8] (fun c => [pt_ c]) (fun c => Res.bx c [I 0, I 0, I 0, I 0] 140))] [(true, .is (.pointer (some ⟨D, 0 + 7, none⟩))), (true, .is (L)), (true, .is (j0)), (true, .is (I (j : Int))), (true, .is (.pointer (some ⟨q0, s0, none⟩))), (true, .is (I kb)), (true, .is (.pointer (some ⟨x0, y0, none⟩))), (true, .is (.agg #[I u.state, I u.need, I u.try_, I u.until_])), (false, .ex (fun (c : Nat) => pt_ c))] mix aD aD aD aD (rs0 := []) rfl n0 (Below.refl _ _) ⟨(fq_ hH (o0.at 5)), (fun f W hst hbl hd hf => aW pN rfl (hd 0 36 rfl rfl) (hst.get 3 rfl) (i := 7) rfl rfl brq), (mq_ (o0.at 6)), (mq_ (o0.at 7)), (fun f W hst hbl hd hf => aT eG (hd 2 38 rfl rfl) t0 (hd 3 39 rfl rfl) rfl brq), (fun f W hst hbl hd hf => dP dA rfl (hd 4 40 rfl rfl) v0 hbl (i := 0) rfl rfl brq), (fun f W hst hbl hd hf => aT gH (hd 1 37 rfl rfl) z0 (hd 5 41 rfl rfl) aE brq), (fun f W hst hbl hd hf => fZ (cs := [I u.state, I u.need, I u.try_, I u.until_]) iI rfl (hd 6 42 rfl rfl) A0 hbl (i := 0) rfl rfl rfl brq), ?_, trivial⟩ ?_
  ·intro f W ru oth hu hst hbl hd hf
   have a : ru = [] := hu
   subst a
   try simp only [cap_, cL] at hst
   refine (aQ iD hst ?_); intro c d g p
   exact ⟨⟨c, rfl⟩, ⟨_, ⟨_, _, rfl, ⟨c, (ce rfl rfl), rfl⟩, rfl⟩, p⟩, (hbl.trans (Below.mono g hbl.size))⟩
  intro q z rs_ hAL_ A B E F
  obtain ⟨_, _, rfl, ⟨c, G, rfl⟩, a⟩ := hAL_
  have a : _ = [] := a
  subst a
  have d : q 8 = pt_ c := congrArg (fun l => l.getD 0 undef) G
  try simp only [cap_, cL] at A
  refine sgn (aK aD d (E 7 43 aZ rfl) (aC rfl (aC rfl (aC rfl (aC rfl bE)))) A bH rfl ?_); intro a g
  refine aB (wp_seq (aA (rn g 4 (Ag.cons (show q 4 = pt_ n from ((F 4 rfl).trans (o0.at 4))) (Ag.cons (show q 5 = pt_ D from ((F 5 rfl).trans (o0.at 5))) (Ag.cons (show q 6 = j0 from ((F 6 rfl).trans (o0.at 6))) (Ag.cons (show q 7 = I (j : Int) from ((F 7 rfl).trans (o0.at 7))) (Ag.cons (show q 8 = pt_ c from d) Ag.nil))))) [] [(46, I (u.need - 1)), (47, .pointer (some ⟨c, 1, none⟩))] [qb 0 rfl 1, qsb u.need 1] aD fun a n => (sgn (aO (v := I (u.need - 1)) aD (n.at 47) (n.at 46) rfl rfl g bH rfl ?_))))); intro p D0
  refine aB (wp_seq (wp_seq (aA (rn D0 3 n [] [(50, .bool (decide ((u.need - 1) = 0)))] [qb 0 rfl 1, .o] aD fun a E0 => (aB (aP (E0.at 50) (fun F0 => ?_) (fun F0 => ?_)))))))
  ·refine aA (sg (aN jE (E0.at 8) (sgn (aO (v := I 2) aD rfl rfl rfl rfl D0 bH rfl ?_)))); intro c d
   refine aB ?_
   have J := St.lendx (α := Task) aZ d.f2 (x := u) huu
   obtain ⟨G0, a, H0, g, post123, n, p, J0, q, K0⟩ := J
   obtain ⟨L0, z, A⟩ := q; have L0 : _ = [I u.state, I u.need, I u.try_, I u.until_] := L0; subst L0
   have p0 : j < (dK (tos r.plan.edges task)).length := (gsi_.1 hkb).1
   have J := eB (aM (K0.d1.get 3 rfl)) (i := j) hkb
   obtain ⟨a, c, d, g, M0, N0, n, p⟩ := J
   have O0 := n
   obtain ⟨rfl, rfl, q⟩ := O0
   refine rk 8 K0.d1 E0.put [] [(58, .agg #[I 2, I (u.need - 1), I u.try_, I u.until_]), (59, .pointer (some ⟨G0, H0.length, none⟩))] [qb 5 rfl 7, qx M0, qn N0 0, qb 2 rfl 0, qxe J0 (e := kb) aE] aD aD fun a c d g n => (sgn (gE (i := 0) (cs := [I 2, I (u.need - 1), I u.try_, I u.until_]) aD (d.at 59) (d.at 58) (aC rfl (aC rfl (aC rfl (aC rfl bE)))) g rfl bH rfl ?_)); intro a c
   refine aB (aA (rn c 3 d [7] [(7, I ((j : Int) + 1))] [qad (j : Int) 1] aD fun n p => (aB ?_)))
   have q := c.cs0 (cs := [I 2, I (u.need - 1), I u.try_, I u.until_]) (x := (⟨2, u.need - 1, u.try_, u.until_⟩ : Task)) ⟨rfl, rfl, fF⟩
   have J := St.give (α := Task) q.f2.f1.f2
   obtain ⟨a, g⟩ := J
   exact ⟨_, (dK (tos r.plan.edges task)).length - (j + 1), aE, rfl, j + 1, a, aE, rfl, (p.to aD), (by rw [vP hkb huu (aL2 F0)]; exact g.f6.f6.f6.f6.f4.f6.d6)⟩
  refine wp_skip ?_
  have J := St.lendx (α := Task) aZ D0.f2 (x := u) huu
  obtain ⟨P0, c, Q0, d, post154, n, q, R0, z, S0⟩ := J
  obtain ⟨T0, a, A⟩ := z; have T0 : _ = [I u.state, I u.need, I u.try_, I u.until_] := T0; subst T0
  have p0 : j < (dK (tos r.plan.edges task)).length := (gsi_.1 hkb).1
  have J := eB (aM (S0.d1.get 3 rfl)) (i := j) hkb
  obtain ⟨c, d, g, n, U0, V0, a, p⟩ := J
  have W0 := a
  obtain ⟨rfl, rfl, q⟩ := W0
  refine rk 8 S0.d1 E0 [] [(58, .agg #[I u.state, I (u.need - 1), I u.try_, I u.until_]), (59, .pointer (some ⟨P0, Q0.length, none⟩))] [qb 5 rfl 7, qx U0, qn V0 0, qb 2 rfl 0, qxe R0 (e := kb) aE] aD aD fun c d g a n => (sgn (gE (i := 0) (cs := [I u.state, I (u.need - 1), I u.try_, I u.until_]) aD (g.at 59) (g.at 58) (aC rfl (aC rfl (aC rfl (aC rfl bE)))) a rfl bH rfl ?_)); intro c d
  refine aB (aA (rn d 3 g [7] [(7, I ((j : Int) + 1))] [qad (j : Int) 1] aD fun n p => (aB ?_)))
  have q := d.cs0 (cs := [I u.state, I (u.need - 1), I u.try_, I u.until_]) (x := (⟨u.state, u.need - 1, u.try_, u.until_⟩ : Task)) ⟨rfl, rfl, fF⟩
  have J := St.give (α := Task) q.f2.f1.f2
  obtain ⟨a, c⟩ := J
  exact ⟨_, (dK (tos r.plan.edges task)).length - (j + 1), aE, rfl, j + 1, a, aE, rfl, (p.to aD), (by rw [vP hkb huu (aL1 F0)]; exact c.f6.f6.f6.f6.f4.f6.d6)⟩
 refine wp_exit (wp_seq ?_)
 have hje : j = (dK (tos r.plan.edges task)).length := by omega
 have hDe : lG (r.tasks.set (task).toNat ⟨4, t.need, t.try_, 0⟩) ((dK (tos r.plan.edges task)).take j) = eA r (task).toNat t := by rw [hje, take_length, ← hbe]; unfold eA; rw [mA R]
 rw [hDe] at n0
 have hS := doneTs_st hRI hti
 have hdl := xU r (task).toNat t
 refine aA (rc n0 3 o0 [] [(61, I (eN (⟨r.id, ⟨r.plan.prio, r.plan.most, r.plan.wait, r.plan.tasks, r.plan.edges⟩, r.state, (eA r (task).toNat t)⟩ : Run).tasks)), (62, .pointer (some ⟨D, 6, none⟩))] [qb 3 rfl 0, qc func157 rfl (fun W s b => aJ8 W (show Shape.C _ [I r.id, I r.plan.prio, I r.plan.most, I r.plan.wait, I r.plan.tasks, K, I r.state, L] (⟨r.id, ⟨r.plan.prio, r.plan.most, r.plan.wait, r.plan.tasks, r.plan.edges⟩, r.state, (eA r (task).toNat t)⟩ : Run) _ from ⟨_, _, _, _, rfl, fF, (aM (s.get 2 rfl)), (aM (s.get 1 rfl)), rfl⟩) hS (show (eA _ _ _).length ≤ 1048576 from by omega))] aD fun a c d g n => ?_)
 have p := g.f3
 refine sgn (aO (v := I (eN (⟨r.id, ⟨r.plan.prio, r.plan.most, r.plan.wait, r.plan.tasks, r.plan.edges⟩, r.state, (eA r (task).toNat t)⟩ : Run).tasks)) aD (d.at 62) (d.at 61) rfl rfl p bH rfl ?_); intro a c
 refine aB (wp_seq (aA (sg (aS (cs := [I r.id, I r.plan.prio, I r.plan.most, I r.plan.wait, I r.plan.tasks, K, I (eN (⟨r.id, ⟨r.plan.prio, r.plan.most, r.plan.wait, r.plan.tasks, r.plan.edges⟩, r.state, (eA r (task).toNat t)⟩ : Run).tasks), L]) bP rfl (d.at 5) (c.get 0 rfl) rfl rfl (sgn (aK aD (d.at 4) rfl (aC rfl (aC rfl (aC rfl (aC rfl (aC rfl (aC (Sl.one (aM (c.f4.get 4 rfl))) (aC rfl (aC (Sl.one (aM (c.f4.get 3 rfl))) bE)))))))) c.f4 bH rfl ?_)))))); intro a g
 refine aB (wr (eT bP rfl results120 (d.at 4) (g.get 0 rfl) rfl ?_))
 have hfe : jP r task = (⟨r.id, r.plan, eN (eA r (task).toNat t), eA r (task).toNat t⟩ : Run) := by rw [wM hRI R hti S, tC hti]; unfold aH1; rw [← vB hRI hti S]
 have hso := (aH2 hRI.small.1 (task).toNat).2.2
 rw [tC hti] at hso
 have a : I64 (eN (eA r (task).toNat t)) := by rw [vB hRI hti S]; exact hso
 have c := eP (x := (⟨r.id, r.plan, eN (eA r (task).toNat t), eA r (task).toNat t⟩ : Run)) g.f3.f4 (show Run.ok _ from ⟨hRI.small.1.1, hRI.small.1.2.1, a⟩)
 try dsimp only at c
 have d := c.d1
 rw [hfe]
 exact ⟨_, _, rfl, d.d1.d1.d1⟩
noncomputable def fY (y : Yard) (id task try_ : Int) : Int := if dB y = false then 8 else if bJ y id < 0 then 10 else if gC y id task try_ = false then 11 else 0
noncomputable def yO (g : Run → Nat → Run) (y : Yard) (id task try_ : Int) : Yard := if fY y id task try_ = 0 then (match eQ y id with | some k => (match y.runs[k]? with | some r => cZ y k r (g r task.toNat) | none => y) | none => y) else y
noncomputable def hQ (y : Yard) (id task try_ : Int) : Yard := yO gV y id task try_
theorem tK (y : Yard) (id task try_ : Int) : 0 ≤ fY y id task try_ ∧ fY y id task try_ ≤ 11 := by
 unfold fY
 split
 ·omega
 split
 ·omega
 split <;> omega
theorem uK {y : Yard} {id task try_ : Int} (h : fY y id task try_ = 0) : YardIs y ∧ ∃ k r t, eQ y id = some k ∧ y.runs[k]? = some r ∧ RunIs r ∧ 0 ≤ task ∧ r.tasks[task.toNat]? = some t ∧ t.state = 3 := by
 unfold fY at h
 split at h
 ·omega
 next s =>
 have hY := iE (by simpa using s)
 split at h
 ·omega
 split at h
 ·omega
 next a =>
 refine ⟨hY, ?_⟩
 have b : gC y id task try_ = true := by simpa using a
 unfold gC at b
 cases hk : eQ y id with
 | none => rw [hk] at b; cases b
 | some k =>
  rw [hk] at b
  simp only at b
  cases hr : y.runs[k]? with
  | none => rw [hr] at b; cases b
  | some r =>
   rw [hr] at b
   simp only [Bool.and_eq_true] at b
   obtain ⟨s, a⟩ := b
   cases ht : r.tasks[task.toNat]? with
   | none => rw [ht] at a; cases a
   | some t => rw [ht] at a; simp only [Bool.and_eq_true, decide_eq_true_eq] at a; exact ⟨k, r, t, rfl, hr, (hY.run k r hr).1, (inB_iff'.1 s).1, ht, a.1⟩
theorem nK {g : Run → Nat → Run} {y : Yard} {id task try_ : Int} {k : Nat} {r : Run} (h : fY y id task try_ = 0) (hk : eQ y id = some k) (hr : y.runs[k]? = some r) : yO g y id task try_ = cZ y k r (g r task.toNat) := by unfold yO; rw [if_pos h, hk]; simp only [hr]
theorem lS {g : Run → Nat → Run} {y : Yard} {id task try_ : Int} (h : ¬ fY y id task try_ = 0) : yO g y id task try_ = y := by unfold yO; rw [if_neg h]
theorem oO {y : Yard} (hY : YardIs y) {k : Nat} {r r' : Run} (hl : r'.tasks.length ≤ 1000) : (cZ y k r r').ok := by
 have s := hY.now; have t := hY.seq; have a := mZ r r'
 unfold cZ
 exact ⟨by simp only [I64]; omega, by simp only [I64]; omega⟩

theorem tq12_ {P : Prop} (h : P := by
 refine oK zq1 rfl zq2 aZ (wp_seq (aA (sg (aI (cs := cs) rfl (St.start w) ?_)))); intro b1 W2 hb3 st4
 refine sg (aG (aB (wp_seq (wp_block (wp_seq (aA (rc st4 4 Ag.nil.put.put.put.put.put.put [] [(9, .bool (!(dB y)))] [qw 0 rfl (Shape.len hc), qc zq3 rfl (fun W s b => zq4 W (aR hc s.below) aE), .o] aD fun f9 W10 h9_ st11 hb12 => (aB (bZ (h9_.at 9) (fun h13 => ?_) (fun h13 => ?_))))))))))
 ·refine wp_seq (aA (sg (aG (aB (wr (bA zq5 rfl ?_))))))
  exact ⟨(fI (by unfold fY; rw [if_pos (aY h13)])), st11.bare⟩
 refine wp_seq (aA (rc st11 5 h9_ [] [(13, .bool (decide ((bJ y id) < 0)))] [qw 0 rfl (Shape.len hc), qc zq6 rfl (fun W s b => zq7 W (aR hc s.below) id aE), .o] aD fun f17 W18 h17_ st19 hb20 => (aB (aP (h17_.at 13) (fun h21p => ?_) (fun h21p => ?_)))))
 ·refine wp_seq (aA (sg (aG (aB (wr (bA zq5 rfl ?_))))))
  exact ⟨(fI (by unfold fY; rw [if_neg (by rw [(aX h13)]; decide), if_pos h21p])), st19.bare⟩
 refine wp_seq (aA (rc st19 7 h17_ [] [(18, .bool (!(gC y id task try_)))] [qw 0 rfl (Shape.len hc), qc zq8 rfl (fun W s b => zq9 W (aR hc s.below) id task try_ aE), .o] aD fun f25 W26 h25_ st27 hb28 => (aB (bZ (h25_.at 18) (fun h29 => ?_) (fun h29 => ?_)))))
 ·refine wp_seq (aA (sg (aG (aB (wr (bA zq5 rfl ?_))))))
  exact ⟨(fI (by unfold fY; rw [if_neg (by rw [(aX h13)]; decide), if_neg h21p, if_pos (aY h29)])), st27.bare⟩
 refine wp_skip (wp_seq (aA (sg (aG (aB (wr (bA zq5 rfl ?_)))))))
 exact ⟨(fI (by unfold fY; rw [if_neg (by rw [(aX h13)]; decide), if_neg h21p, if_neg (by rw [(aX h29)]; decide)])), st27.bare⟩) : P := h
theorem ToldI {y : Yard} (hc : Shape.C w cs y fp) (id task try_ : Int) (hw : y.wt ≤ 1048576) :
  Calls prog 127 #[.agg cs.toArray, I id, I task, I try_] w fun e w' => e = .returned (I (fY y id task try_)) ∧ St w w' [] := by have zq1 := @func127; have zq2 := @ntmps127; have zq3 := @func46; have zq4 := @nE; have zq5 := @results127; have zq6 := @func98; have zq7 := @pV; have zq8 := @func109; have zq9 := @aK0; exact tq12_
theorem ToldS {y : Yard} (hc : Shape.C w cs y fp) (id task try_ : Int) (hw : y.wt ≤ 1048576) :
  Calls prog 119 #[.agg cs.toArray, I id, I task, I try_] w fun e w' => e = .returned (I (fY y id task try_)) ∧ St w w' [] := by have zq1 := @func119; have zq2 := @ntmps119; have zq3 := @func42; have zq4 := @nD; have zq5 := @results119; have zq6 := @func90; have zq7 := @rT; have zq8 := @func184; have zq9 := @HoldsS; exact tq12_
theorem CompleteC {w W0 : World} {ty : TypeId} {rs : List Res} {b : Nat} {pre cs post : List Value} {r : Run} {fp : List Nat} (hst : St w W0 (Res.bx b (pre ++ cs ++ post) ty :: Res.own (.agg cs.toArray) r fp :: rs)) {bt : Nat} {tt : TypeId} (task : Int) {t : Task} (hB : ∀ W', St w W' rs → (Res.bx bt [I task] tt).holds W') (h0 : 0 ≤ task) (hti : r.tasks[(task).toNat]? = some t) (hRI : RunIs r) :
  Calls prog 128 #[.pointer (some ⟨b, pre.length, none⟩), pt_ bt] W0 fun e w' => ∃ (cs' : List Value) (fp' : List Nat), e = .returned (.tuple #[]) ∧ St w w' (Res.bx b (pre ++ cs' ++ post) ty :: Res.own (.agg cs'.toArray) (gV r (task).toNat) fp' :: rs) := by
 refine bY func128 rfl ntmps128 aZ (aA (sg (aH (v := .pointer (some ⟨b, pre.length, none⟩)) rfl (sg (dP dA rfl rfl (bQ (hB _ (St.dropn 2 hst))) (Below.refl _ _) (i := 0) rfl rfl ?_)))))
 have s := hst.f1
 refine sg (bN func129 rfl rfl rfl ((DoneI s.f1 task h0 hti hRI).mono ?_)); rintro _ a ⟨c, d, rfl, g⟩; refine ⟨_, rfl, ?_⟩
 refine aB ?_
 repeat (first | refine iO ?_ | refine jN ?_ | refine iP rfl ?_)
 refine yK results128 ?_
 exact ⟨_, _, rfl, g.f1.f1⟩
theorem CompleteI {y : Yard} (hc : Shape.C w cs y fp) (id task try_ : Int) (hw : y.wt ≤ 1048576) :
  Calls prog 68 #[.agg cs.toArray, I id, I task, I try_] w fun e w' => ∃ (cs' : List Value) (fp' : List Nat), e = .returned (.tuple #[.agg cs'.toArray, I (fY y id task try_)]) ∧ St w w' [Res.own (.agg cs'.toArray) (hQ y id task try_) fp'] := by
 refine oK func68 rfl ntmps68 aZ (wp_seq (aA (sg (aI (cs := cs) rfl (St.start w) ?_)))); intro a c d g
 refine sg (mU (v := I task) rfl rfl g ?_); intro j n p q
 refine sg (aQ cI q ?_); intro z A B D
 refine sg (aG (aB (wp_seq (aA (sg (aV aL rfl rfl (D.get 2 rfl) (Shape.len hc) (sg (bC func108 rfl rfl ((iQ A (aR hc D.below) aE).mono ?_))))))))); rintro _ c ⟨E, d, rfl, g⟩; refine ⟨_, rfl, ?_⟩
 have n := St.call D g
 refine sg (aQ cI n ?_); intro F p q B
 refine sgn (aJ (cs := E) aL (bB (B.get 1 rfl) rfl) rfl rfl B rfl ?_); intro c A
 refine aB (wp_seq (aA (rc A 6 Ag.nil.put.put.put.put.put.put.put.put.put.put.put [] [(11, I (fY y id task try_))] [qw 4 rfl (Shape.len hc), qb 3 rfl 0, qc func127 rfl (fun W s b => ToldI W (aR hc s.below) id task try_ aE)] aD fun d g G H c => (aB (wp_seq (wp_seq (aA (sg (aH (G.at 11) (sg (dC rfl rfl (aB (aP rfl (fun J => ?_) (fun J => ?_))))))))))))))
 ·have K : fY y id task try_ = 0 := by have := J; omega
  have d := uK K
  obtain ⟨hY, k, r, t, hix, hr, hRI, L, hti, c⟩ := d
  refine aA (rc H 3 G.put.put [] [(23, I (k : Int))] [qw 4 rfl (Shape.len hc), qc func98 rfl (fun W s b => nU W (aR hc s.below) id hw hix)] aD fun g n M p q => (sg (gQ nZ (pJ (M.at 6) nZ) ?_)))
  have d := eM p.f1
  obtain ⟨N, O, c, A, P, B, R⟩ := d
  subst P
  have ch_q0 := (RI.start hY).chg hY aE ((gV r (task).toNat)).id
  obtain ⟨ch_s, ch_n, ch_q⟩ := ch_q0
  have ch_r := hr
  have ch_k := nB r (task).toNat
  have ch_sm := hRI.small
  have ch_l : r.tasks.length ≤ 1000 := by omega
  have ch_l2 : (gV r (task).toNat).tasks.length ≤ 1000 := by omega
  have ch_ok := aH2 ch_sm.1 (task).toNat
  refine sg (eL func110 rfl (M.at 10) (M.at 23) rfl ((vQ (y := y) (k := k) (r := r) (r' := (gV r (task).toNat)) (capt := [pt_ j]) R.f1.f1.f2 ch_r ch_l ch_l2 ch_ok ch_s ch_n ch_q func128 rfl (fun c d g n p q A B hh_ hs_ => CompleteC hs_ task (fun W_ h_ => (hh_ W_ h_).get 1 rfl) L hti hRI)).mono ?_)); rintro _ D ⟨P, S, rfl, R⟩; refine ⟨_, rfl, ?_⟩
  have T : St w D ([Res.bx F [I (cZ y k r (gV r (task).toNat)).now, I (cZ y k r (gV r (task).toNat)).seq, N, O] 34, Res.own (α := List (List Entry)) N (cZ y k r (gV r (task).toNat)).shelf P, Res.own (α := List Run) O (cZ y k r (gV r (task).toNat)).runs S, Res.bx z [I 0, I 0, .slice none 0 0, .slice none 0 0] 34, Res.bx j [I task] 3, Res.bx a cs 34]) := R
  refine aB (wp_seq (aA (sg (aS (cs := [I (cZ y k r (gV r (task).toNat)).now, I (cZ y k r (gV r (task).toNat)).seq, N, O]) aL rfl (M.at 10) (T.get 0 rfl) rfl rfl (sg (aH (M.at 11) (sgn (aK aD (M.at 8) rfl (aC rfl (aC rfl (aC (Sl.one (aM (T.f3.get 2 rfl))) (aC (Sl.one (aM (T.f3.get 3 rfl))) bE)))) T.f3 bH rfl ?_)))))))); intro a c
  refine sg (aF (v := I (fY y id task try_)) rfl (aB (wr (eH aL rfl results68 (M.at 8) (c.get 0 rfl) rfl rfl ?_))))
  have hfe : hQ y id task try_ = (cZ y k r (gV r (task).toNat)) := nK K hix hr
  have a := cH (x := (cZ y k r (gV r (task).toNat))) c.f3.f3 (oO hY ch_l2)
  rw [hfe]
  exact ⟨_, _, rfl, a.d1.d1.d1.d1⟩
 refine wp_skip (wp_seq (aA (sg (aV aL rfl (G.at 10) (H.get 0 rfl) (Shape.len (bB (H.get 1 rfl) rfl)) (sg (aH (G.at 11) (sgn (aJ (cs := E) aL (bB (H.f2.get 2 rfl) rfl) (G.at 8) rfl H.f2 rfl ?_)))))))); intro a c
 refine sg (aF (v := I (fY y id task try_)) rfl (aB (wr (eH aL rfl results68 (G.at 8) (c.get 0 rfl) (Shape.len (bB (c.get 2 rfl) rfl)) rfl ?_))))
 have hfe : hQ y id task try_ = y := lS J
 rw [hfe]
 exact ⟨_, _, rfl, c.f2.d1.d1.d1.d1⟩
theorem CompleteS {y : Yard} (hc : Shape.C w cs y fp) (id task try_ : Int) (hw : y.wt ≤ 1048576) :
  Calls prog 65 #[.agg cs.toArray, I id, I task, I try_] w fun e w' => ∃ (cs' : List Value) (fp' : List Nat), e = .returned (.tuple #[.agg cs'.toArray, I (fY y id task try_)]) ∧ St w w' [Res.own (.agg cs'.toArray) (hQ y id task try_) fp'] := by
 refine oK func65 rfl ntmps65 aZ (wp_seq (aA (sg (aI (cs := cs) rfl (St.start w) ?_)))); intro a c d g
 refine sg (aQ cI g ?_); intro j n p q
 refine sg (aG (aB (wp_seq (aA (sg (aV aL rfl rfl (q.get 1 rfl) (Shape.len hc) (sg (bC func71 rfl rfl ((hX n (aR hc q.below) aE).mono ?_))))))))); rintro _ c ⟨d, g, rfl, z⟩; refine ⟨_, rfl, ?_⟩
 have p := St.call q z
 refine sg (aQ cI p ?_); intro A B D E
 refine sgn (aJ (cs := d) aL (bB (E.get 1 rfl) rfl) rfl rfl E rfl ?_); intro c n
 refine aB (wp_seq (aA (rc n 6 Ag.nil.put.put.put.put.put.put.put.put.put.put [] [(11, I (fY y id task try_))] [qw 3 rfl (Shape.len hc), qc func119 rfl (fun W s b => ToldS W (aR hc s.below) id task try_ aE)] aD fun g p q z c => (aB (wp_seq (wp_seq (aA (sg (aH (q.at 11) (sg (aB1 rfl rfl (aB (cQ rfl (fun n => ?_) (fun n => ?_))))))))))))))
 ·refine wp_seq (aA (sg (aV aL rfl (q.at 10) (z.get 0 rfl) (Shape.len (bB (z.get 1 rfl) rfl)) (sg (aH (q.at 11) (sgn (aJ (cs := d) aL (bB (z.f2.get 2 rfl) rfl) (q.at 8) rfl z.f2 rfl ?_))))))); intro c g
  refine sg (aF (v := I (fY y id task try_)) rfl (aB (wr (eH aL rfl results65 (q.at 8) (g.get 0 rfl) (Shape.len (bB (g.get 2 rfl) rfl)) rfl ?_))))
  have hfe : hQ y id task try_ = y := lS n
  rw [hfe]
  exact ⟨_, _, rfl, g.f2.d1.d1.d1⟩
 refine wp_skip (wp_seq ?_)
 have F : fY y id task try_ = 0 := by have := n; omega
 have G := uK F
 obtain ⟨hY, k, r, t, hix, hr, hRI, H, hti, J⟩ := G
 refine aA (rc z 4 q.put.put [] [(12, I (k : Int))] [qw 3 rfl (Shape.len hc), qc func90 rfl (fun W s b => nT W (aR hc s.below) id hw hix)] aD fun c K L d g => (aB (wp_seq ?_)))
 have hrw : r.wt ≤ 1048576 := by have := hRI.wt; omega
 have G := eM d.f1
 obtain ⟨M, N, O, P, R, n, S⟩ := G
 subst R
 have p : k < y.runs.length := (gsi_.1 hr).1
 have G := eB (aM (S.get 1 rfl)) (i := k) hr
 obtain ⟨c, g, q, z, B, D, E, T⟩ := G
 refine cK 9 [(some 8, none, .of (ι := List Value × List Nat) [35] (fun ⟨d, n⟩ => [.agg d.toArray]) (fun ⟨d, n⟩ => Res.own (α := Run) (.agg d.toArray) (jP r task) n))] [(true, .is (.agg #[I y.now, I y.seq, M, N])), (true, .is (I (k : Int))), (true, .is (.pointer (some ⟨A, 0 + 3, none⟩))), (true, .is (N)), (true, .is (I (k : Int))), (true, .is (.pointer (some ⟨c, g, none⟩))), (true, .is (.agg q.toArray)), (true, .is (I task)), (false, .ex (fun (d : List Value) => .agg d.toArray))] mix aD aD aD aD (rs0 := []) rfl S (Below.refl _ _) ⟨(fun f W hst hbl hd hf => aS (cs := [I y.now, I y.seq, M, N]) aL rfl ((hf 10 rfl).trans (L.at 10)) (hst.get 2 rfl) rfl rfl brq), (mq_ (L.at 12)), (fq_ dG (L.at 10)), (fun f W hst hbl hd hf => aW fR rfl (hd 2 29 rfl rfl) (hst.get 2 rfl) (i := 3) rfl rfl brq), (mq_ (L.at 12)), (fun f W hst hbl hd hf => aT dS (hd 3 30 rfl rfl) B (hd 4 31 rfl rfl) rfl brq), (fun f W hst hbl hd hf => cY bP rfl (hd 5 32 rfl rfl) D hbl (Shape.len E) brq), (mq_ (L.at 2)), ?_, trivial⟩ ?_
 ·intro f W ru oth hu hst hbl hd hf
  have a : ru = [] := hu
  subst a
  try simp only [cap_, cL] at hst
  refine (bN func120 rfl (hd 6 33 rfl rfl) (hd 7 34 rfl rfl) ((RunDoneS W (aR E hbl) task aE).mono ?_)); rintro _ c ⟨d, n, rfl, g⟩; refine ⟨_, rfl, ?_⟩
  have j := St.call hst g
  exact ⟨⟨d, rfl⟩, ⟨_, ⟨_, _, rfl, ⟨(d, n), (ce rfl rfl), rfl⟩, rfl⟩, j⟩, (hbl.trans (Below.mono g.below hbl.size))⟩
 intro p q rs_ hAL_ z A B c
 obtain ⟨_, _, rfl, ⟨⟨d, n⟩, D, rfl⟩, a⟩ := hAL_
 have a : _ = [] := a
 subst a
 have E : p 35 = .agg d.toArray := congrArg (fun l => l.getD 0 undef) D
 try simp only [cap_, cL] at z
 have g := z.f2
 have ch_q0 := (RI.start hY).chg hY aE (jP r task).id
 obtain ⟨ch_s, ch_n, ch_q⟩ := ch_q0
 have ch_r := hr
 have ch_k := nB r (task).toNat
 have ch_sm := hRI.small
 have ch_e := wM hRI H hti J
 have ch_l2 : (jP r task).tasks.length ≤ 1000 := by rw [ch_e]; omega
 refine sg (eL func104 rfl (B 0 27 aZ rfl) (B 1 28 aZ rfl) E ((aM8 (y := y) (k := k) (was := r) (r := jP r task) g.f2 ch_r ch_s ch_l2 ch_n ch_q).mono ?_)); rintro _ a ⟨d, j, rfl, n⟩; refine ⟨_, rfl, ?_⟩
 refine sgn (aK aD ((c 8 rfl).trans (L.at 8)) rfl (aC rfl (aC rfl (aC (Sl.one (aM (n.f3.get 1 rfl))) (aC (Sl.one (aM (n.f3.get 2 rfl))) bE)))) n.f3 bH rfl ?_); intro a d
 refine sg (aG (aB (wr (eH aL rfl results65 ((c 8 rfl).trans (L.at 8)) (d.get 0 rfl) rfl rfl ?_))))
 have hfe : hQ y id task try_ = (cZ y k r (jP r task)) := by rw [ch_e]; exact nK F hix hr
 have a := cH (x := (cZ y k r (jP r task))) d.f2.f2 (oO hY ch_l2)
 rw [hfe, F]
 exact ⟨_, _, rfl, a.d1.d1.d1⟩
noncomputable def oW (y : Yard) (id task try_ : Int) : Yard := yO cS y id task try_
theorem runFails_to {r : Run} (h : RunIs r) {task : Int} {t : Task} (h0 : 0 ≤ task) (ht : r.tasks[task.toNat]? = some t) (h3 : t.state = 3) : dY r task = cS r task.toNat := by
 have := pG h ht h3
 rwa [mA h0] at this
theorem failsR_ok {r : Run} (h : r.ok) (i : Nat) : (cS r i).ok := by
 unfold cS
 cases r.tasks[i]? with
 | none => exact h
 | some t =>
  show (oH r i t).ok
  unfold oH
  split
  ·exact h
  exact ⟨h.1, h.2.1, by show I64 3; unfold I64; omega⟩
theorem FailsIt {w W0 : World} {ty : TypeId} {rs : List Res} {b : Nat} {pre cs post : List Value} {r : Run} {fp : List Nat} (hst : St w W0 (Res.bx b (pre ++ cs ++ post) ty :: Res.own (.agg cs.toArray) r fp :: rs)) (task : Int) (h0 : 0 ≤ task) {t : Task} (hti : r.tasks[task.toNat]? = some t) (hw : r.tasks.length ≤ 1048576) :
  Calls prog 112 #[.pointer (some ⟨b, pre.length, none⟩), I task] W0 fun e w' => ∃ (cs' : List Value) (fp' : List Nat), e = .returned (.tuple #[]) ∧ St w w' (Res.bx b (pre ++ cs' ++ post) ty :: Res.own (.agg cs'.toArray) (cS r task.toNat) fp' :: rs) := by
 have := aK1 hst task.toNat hti hw
 rwa [mA h0] at this

theorem FailC {w W0 : World} {ty : TypeId} {rs : List Res} {b : Nat} {pre cs post : List Value} {r : Run} {fp : List Nat} (hst : St w W0 (Res.bx b (pre ++ cs ++ post) ty :: Res.own (.agg cs.toArray) r fp :: rs)) {bt : Nat} {tt : TypeId} (task : Int) {t : Task} (hB : ∀ W', St w W' rs → (Res.bx bt [I task] tt).holds W') (h0 : 0 ≤ task) (hti : r.tasks[(task).toNat]? = some t) (hRI : RunIs r) :
  Calls prog 205 #[.pointer (some ⟨b, pre.length, none⟩), pt_ bt] W0 fun e w' => ∃ (cs' : List Value) (fp' : List Nat), e = .returned (.tuple #[]) ∧ St w w' (Res.bx b (pre ++ cs' ++ post) ty :: Res.own (.agg cs'.toArray) (cS r (task).toNat) fp' :: rs) := by
 refine bY func205 rfl ntmps205 aZ (aA (sg (aH (v := .pointer (some ⟨b, pre.length, none⟩)) rfl (sg (dP dA rfl rfl (bQ (hB _ (St.dropn 2 hst))) (Below.refl _ _) (i := 0) rfl rfl ?_)))))
 have s := hst.f1
 refine sg (bN func112 rfl rfl rfl ((FailsIt s.f1 task h0 hti (by have := hRI.small; omega)).mono ?_)); rintro _ a ⟨c, d, rfl, g⟩; refine ⟨_, rfl, ?_⟩
 refine aB ?_
 repeat (first | refine iO ?_ | refine jN ?_ | refine iP rfl ?_)
 refine yK results205 ?_
 exact ⟨_, _, rfl, g.f1.f1⟩
theorem FailI {y : Yard} (hc : Shape.C w cs y fp) (id task try_ : Int) (hw : y.wt ≤ 1048576) :
  Calls prog 147 #[.agg cs.toArray, I id, I task, I try_] w fun e w' => ∃ (cs' : List Value) (fp' : List Nat), e = .returned (.tuple #[.agg cs'.toArray, I (fY y id task try_)]) ∧ St w w' [Res.own (.agg cs'.toArray) (oW y id task try_) fp'] := by
 refine oK func147 rfl ntmps147 aZ (wp_seq (aA (sg (aI (cs := cs) rfl (St.start w) ?_)))); intro a c d g
 refine sg (mU (v := I task) rfl rfl g ?_); intro j n p q
 refine sg (aQ cI q ?_); intro z A B D
 refine sg (aG (aB (wp_seq (aA (sg (aV aL rfl rfl (D.get 2 rfl) (Shape.len hc) (sg (bC func108 rfl rfl ((iQ A (aR hc D.below) aE).mono ?_))))))))); rintro _ c ⟨E, d, rfl, g⟩; refine ⟨_, rfl, ?_⟩
 have n := St.call D g
 refine sg (aQ cI n ?_); intro F p q B
 refine sgn (aJ (cs := E) aL (bB (B.get 1 rfl) rfl) rfl rfl B rfl ?_); intro c A
 refine aB (wp_seq (aA (rc A 6 Ag.nil.put.put.put.put.put.put.put.put.put.put.put [] [(11, I (fY y id task try_))] [qw 4 rfl (Shape.len hc), qb 3 rfl 0, qc func127 rfl (fun W s b => ToldI W (aR hc s.below) id task try_ aE)] aD fun d g G H c => (aB (wp_seq (wp_seq (aA (sg (aH (G.at 11) (sg (dC rfl rfl (aB (aP rfl (fun J => ?_) (fun J => ?_))))))))))))))
 ·have K : fY y id task try_ = 0 := by have := J; omega
  have d := uK K
  obtain ⟨hY, k, r, t, hix, hr, hRI, L, hti, c⟩ := d
  refine aA (rc H 3 G.put.put [] [(23, I (k : Int))] [qw 4 rfl (Shape.len hc), qc func98 rfl (fun W s b => nU W (aR hc s.below) id hw hix)] aD fun g n M p q => (sg (gQ nZ (pJ (M.at 6) nZ) ?_)))
  have d := eM p.f1
  obtain ⟨N, O, c, A, P, B, R⟩ := d
  subst P
  have ch_q0 := (RI.start hY).chg hY aE ((cS r (task).toNat)).id
  obtain ⟨ch_s, ch_n, ch_q⟩ := ch_q0
  have ch_r := hr
  have ch_k := oI r (task).toNat
  have ch_sm := hRI.small
  have ch_l : r.tasks.length ≤ 1000 := by omega
  have ch_l2 : (cS r (task).toNat).tasks.length ≤ 1000 := by omega
  have ch_ok := failsR_ok ch_sm.1 (task).toNat
  refine sg (eL func110 rfl (M.at 10) (M.at 23) rfl ((vQ (y := y) (k := k) (r := r) (r' := (cS r (task).toNat)) (capt := [pt_ j]) R.f1.f1.f2 ch_r ch_l ch_l2 ch_ok ch_s ch_n ch_q func205 rfl (fun c d g n p q A B hh_ hs_ => FailC hs_ task (fun W_ h_ => (hh_ W_ h_).get 1 rfl) L hti hRI)).mono ?_)); rintro _ D ⟨P, S, rfl, R⟩; refine ⟨_, rfl, ?_⟩
  have T : St w D ([Res.bx F [I (cZ y k r (cS r (task).toNat)).now, I (cZ y k r (cS r (task).toNat)).seq, N, O] 34, Res.own (α := List (List Entry)) N (cZ y k r (cS r (task).toNat)).shelf P, Res.own (α := List Run) O (cZ y k r (cS r (task).toNat)).runs S, Res.bx z [I 0, I 0, .slice none 0 0, .slice none 0 0] 34, Res.bx j [I task] 3, Res.bx a cs 34]) := R
  refine aB (wp_seq (aA (sg (aS (cs := [I (cZ y k r (cS r (task).toNat)).now, I (cZ y k r (cS r (task).toNat)).seq, N, O]) aL rfl (M.at 10) (T.get 0 rfl) rfl rfl (sg (aH (M.at 11) (sgn (aK aD (M.at 8) rfl (aC rfl (aC rfl (aC (Sl.one (aM (T.f3.get 2 rfl))) (aC (Sl.one (aM (T.f3.get 3 rfl))) bE)))) T.f3 bH rfl ?_)))))))); intro a c
  refine sg (aF (v := I (fY y id task try_)) rfl (aB (wr (eH aL rfl results147 (M.at 8) (c.get 0 rfl) rfl rfl ?_))))
  have hfe : oW y id task try_ = (cZ y k r (cS r (task).toNat)) := nK K hix hr
  have a := cH (x := (cZ y k r (cS r (task).toNat))) c.f3.f3 (oO hY ch_l2)
  rw [hfe]
  exact ⟨_, _, rfl, a.d1.d1.d1.d1⟩
 refine wp_skip (wp_seq (aA (sg (aV aL rfl (G.at 10) (H.get 0 rfl) (Shape.len (bB (H.get 1 rfl) rfl)) (sg (aH (G.at 11) (sgn (aJ (cs := E) aL (bB (H.f2.get 2 rfl) rfl) (G.at 8) rfl H.f2 rfl ?_)))))))); intro a c
 refine sg (aF (v := I (fY y id task try_)) rfl (aB (wr (eH aL rfl results147 (G.at 8) (c.get 0 rfl) (Shape.len (bB (c.get 2 rfl) rfl)) rfl ?_))))
 have hfe : oW y id task try_ = y := lS J
 rw [hfe]
 exact ⟨_, _, rfl, c.f2.d1.d1.d1.d1⟩
theorem FailS {y : Yard} (hc : Shape.C w cs y fp) (id task try_ : Int) (hw : y.wt ≤ 1048576) :
  Calls prog 139 #[.agg cs.toArray, I id, I task, I try_] w fun e w' => ∃ (cs' : List Value) (fp' : List Nat), e = .returned (.tuple #[.agg cs'.toArray, I (fY y id task try_)]) ∧ St w w' [Res.own (.agg cs'.toArray) (oW y id task try_) fp'] := by
 refine oK func139 rfl ntmps139 aZ (wp_seq (aA (sg (aI (cs := cs) rfl (St.start w) ?_)))); intro a c d g
 refine sg (aQ cI g ?_); intro j n p q
 refine sg (aG (aB (wp_seq (aA (sg (aV aL rfl rfl (q.get 1 rfl) (Shape.len hc) (sg (bC func71 rfl rfl ((hX n (aR hc q.below) aE).mono ?_))))))))); rintro _ c ⟨d, g, rfl, z⟩; refine ⟨_, rfl, ?_⟩
 have p := St.call q z
 refine sg (aQ cI p ?_); intro A B D E
 refine sgn (aJ (cs := d) aL (bB (E.get 1 rfl) rfl) rfl rfl E rfl ?_); intro c n
 refine aB (wp_seq (aA (rc n 6 Ag.nil.put.put.put.put.put.put.put.put.put.put [] [(11, I (fY y id task try_))] [qw 3 rfl (Shape.len hc), qc func119 rfl (fun W s b => ToldS W (aR hc s.below) id task try_ aE)] aD fun g p q z c => (aB (wp_seq (wp_seq (aA (sg (aH (q.at 11) (sg (aB1 rfl rfl (aB (cQ rfl (fun n => ?_) (fun n => ?_))))))))))))))
 ·refine wp_seq (aA (sg (aV aL rfl (q.at 10) (z.get 0 rfl) (Shape.len (bB (z.get 1 rfl) rfl)) (sg (aH (q.at 11) (sgn (aJ (cs := d) aL (bB (z.f2.get 2 rfl) rfl) (q.at 8) rfl z.f2 rfl ?_))))))); intro c g
  refine sg (aF (v := I (fY y id task try_)) rfl (aB (wr (eH aL rfl results139 (q.at 8) (g.get 0 rfl) (Shape.len (bB (g.get 2 rfl) rfl)) rfl ?_))))
  have hfe : oW y id task try_ = y := lS n
  rw [hfe]
  exact ⟨_, _, rfl, g.f2.d1.d1.d1⟩
 refine wp_skip (wp_seq ?_)
 have F : fY y id task try_ = 0 := by have := n; omega
 have G := uK F
 obtain ⟨hY, k, r, t, hix, hr, hRI, H, hti, J⟩ := G
 refine aA (rc z 4 q.put.put [] [(12, I (k : Int))] [qw 3 rfl (Shape.len hc), qc func90 rfl (fun W s b => nT W (aR hc s.below) id hw hix)] aD fun c K L d g => (aB (wp_seq ?_)))
 have hrw : r.wt ≤ 1048576 := by have := hRI.wt; omega
 have G := eM d.f1
 obtain ⟨M, N, O, P, R, n, S⟩ := G
 subst R
 have p : k < y.runs.length := (gsi_.1 hr).1
 have G := eB (aM (S.get 1 rfl)) (i := k) hr
 obtain ⟨c, g, q, z, B, D, E, T⟩ := G
 refine cK 9 [(some 8, none, .of (ι := List Value × List Nat) [35] (fun ⟨d, n⟩ => [.agg d.toArray]) (fun ⟨d, n⟩ => Res.own (α := Run) (.agg d.toArray) (dY r task) n))] [(true, .is (.agg #[I y.now, I y.seq, M, N])), (true, .is (I (k : Int))), (true, .is (.pointer (some ⟨A, 0 + 3, none⟩))), (true, .is (N)), (true, .is (I (k : Int))), (true, .is (.pointer (some ⟨c, g, none⟩))), (true, .is (.agg q.toArray)), (true, .is (I task)), (false, .ex (fun (d : List Value) => .agg d.toArray))] mix aD aD aD aD (rs0 := []) rfl S (Below.refl _ _) ⟨(fun f W hst hbl hd hf => aS (cs := [I y.now, I y.seq, M, N]) aL rfl ((hf 10 rfl).trans (L.at 10)) (hst.get 2 rfl) rfl rfl brq), (mq_ (L.at 12)), (fq_ dG (L.at 10)), (fun f W hst hbl hd hf => aW fR rfl (hd 2 29 rfl rfl) (hst.get 2 rfl) (i := 3) rfl rfl brq), (mq_ (L.at 12)), (fun f W hst hbl hd hf => aT dS (hd 3 30 rfl rfl) B (hd 4 31 rfl rfl) rfl brq), (fun f W hst hbl hd hf => cY bP rfl (hd 5 32 rfl rfl) D hbl (Shape.len E) brq), (mq_ (L.at 2)), ?_, trivial⟩ ?_
 ·intro f W ru oth hu hst hbl hd hf
  have a : ru = [] := hu
  subst a
  try simp only [cap_, cL] at hst
  refine (bN func105 rfl (hd 6 33 rfl rfl) (hd 7 34 rfl rfl) ((uL W (aR E hbl) task aE).mono ?_)); rintro _ c ⟨d, n, rfl, g⟩; refine ⟨_, rfl, ?_⟩
  have j := St.call hst g
  exact ⟨⟨d, rfl⟩, ⟨_, ⟨_, _, rfl, ⟨(d, n), (ce rfl rfl), rfl⟩, rfl⟩, j⟩, (hbl.trans (Below.mono g.below hbl.size))⟩
 intro p q rs_ hAL_ z A B c
 obtain ⟨_, _, rfl, ⟨⟨d, n⟩, D, rfl⟩, a⟩ := hAL_
 have a : _ = [] := a
 subst a
 have E : p 35 = .agg d.toArray := congrArg (fun l => l.getD 0 undef) D
 try simp only [cap_, cL] at z
 have g := z.f2
 have ch_q0 := (RI.start hY).chg hY aE (dY r task).id
 obtain ⟨ch_s, ch_n, ch_q⟩ := ch_q0
 have ch_r := hr
 have ch_k := oI r (task).toNat
 have ch_sm := hRI.small
 have ch_e := runFails_to hRI H hti J
 have ch_l2 : (dY r task).tasks.length ≤ 1000 := by rw [ch_e]; omega
 refine sg (eL func104 rfl (B 0 27 aZ rfl) (B 1 28 aZ rfl) E ((aM8 (y := y) (k := k) (was := r) (r := dY r task) g.f2 ch_r ch_s ch_l2 ch_n ch_q).mono ?_)); rintro _ a ⟨d, j, rfl, n⟩; refine ⟨_, rfl, ?_⟩
 refine sgn (aK aD ((c 8 rfl).trans (L.at 8)) rfl (aC rfl (aC rfl (aC (Sl.one (aM (n.f3.get 1 rfl))) (aC (Sl.one (aM (n.f3.get 2 rfl))) bE)))) n.f3 bH rfl ?_); intro a d
 refine sg (aG (aB (wr (eH aL rfl results139 ((c 8 rfl).trans (L.at 8)) (d.get 0 rfl) rfl rfl ?_))))
 have hfe : oW y id task try_ = (cZ y k r (dY r task)) := by rw [ch_e]; exact nK F hix hr
 have a := cH (x := (cZ y k r (dY r task))) d.f2.f2 (oO hY ch_l2)
 rw [hfe, F]
 exact ⟨_, _, rfl, a.d1.d1.d1⟩
theorem sS {C : List Value} {o m j : Nat} {v : Value} (h : ((C.drop o).take m)[j]? = some v) : C[o + j]? = some v := by
 rw [getElem?_take] at h
 split at h
 ·rwa [getElem?_drop] at h
 cases h
theorem St.ownOpen {w0 W : World} {rs : List Res} {v : Value} {xs : List Entry} {fp : List Nat} (h : St w0 W (Res.own v xs fp :: rs)) (hne : 0 < xs.length) :
  ∃ b off cap C e, v = .slice (some ⟨b, off, none⟩) xs.length cap ∧ xs.length ≤ cap ∧ cap ≤ 9223372036854775807 ∧ off + xs.length * 4 ≤ C.length ∧ Elems W ((C.drop off).take (xs.length * 4)) xs [] ∧ St w0 W (Res.bx b C e :: rs) := by
 have hown := h.get 0 rfl
 have hwr := hown.2
 obtain ⟨ao, cap, s, t, a, d⟩ := aM hown
 rcases d with ⟨g, _⟩ | ⟨b, off, f, _, n, rfl, hb, d⟩
 ·rw [g] at hne; exact absurd hne (by simp)
 subst n
 have hf := SlAt.plain fE d
 subst hf
 obtain ⟨cells, he, hr⟩ := Elems.of_at off d
 obtain ⟨C, e, hC⟩ := hwr b (by simp)
 have hcl : cells.length = xs.length * 4 := he.len
 have hget : ∀ j v, cells[j]? = some v → C.toList[off + j]? = some v := fun j v hj => by
  have := hr j v hj
  simpa [World.cell?, hC] using this
 have hle : off + xs.length * 4 ≤ C.toList.length := by
  have hj := getElem?_eq_getElem (l := cells) (i := xs.length * 4 - 1) aE
  have := (gsi_.1 (hget _ _ hj)).1
  omega
 have hce : cells = (C.toList.drop off).take (xs.length * 4) := by
  apply ext_getElem?
  intro j
  rw [getElem?_take]
  by_cases hj : j < xs.length * 4
  ·rw [if_pos hj, getElem?_drop, getElem?_eq_getElem aE]
   exact (hget j _ (getElem?_eq_getElem aE)).symm
  rw [if_neg hj, getElem?_eq_none aE]
 refine ⟨b, off, cap, C.toList, e, s, t, a, hle, hce ▸ he, ?_⟩
 exact h.turn (r' := Res.bx b C.toList e) rfl rfl rfl (Nat.le_refl _) (fun _ _ _ => rfl) (by show W.heap[b]? = some (.cells C.toList.toArray e (0, 0)); simpa using hC) (by simp [Res.bx]) (fun c hc => .inl (by simpa [Res.own, Res.bx] using hc))
theorem St.ownShut {w0 W : World} {rs : List Res} {b off cap m : Nat} {C : List Value} {e : TypeId} {ys : List Entry} (h : St w0 W (Res.bx b C e :: rs)) (hE : Elems W ((C.drop off).take (m * 4)) ys []) (hm : ys.length = m) (h1 : m ≤ cap) (h2 : cap ≤ 9223372036854775807) (hle : off + m * 4 ≤ C.length) :
  ∃ fp, St w0 W (Res.own (.slice (some ⟨b, off, none⟩) m cap) ys fp :: rs) := by
 have hB : W.heap[b]? = some (.cells C.toArray e (0, 0)) := h.get 0 rfl
 subst hm
 cases ys with
 | nil =>
  refine ⟨[], h.turn (r' := Res.own _ ([] : List Entry) []) rfl rfl rfl (Nat.le_refl _) (fun _ _ _ => rfl) ⟨Sl.v ⟨_, cap, rfl, h1, h2, .inl ⟨rfl, rfl⟩⟩, by simp⟩ (by simp [Res.own]) (fun c hc => by simp [Res.own] at hc)⟩
 | cons y ys =>
  refine ⟨[b], h.turn (r' := Res.own _ (y :: ys) [b]) rfl rfl rfl (Nat.le_refl _) (fun _ _ _ => rfl) ⟨Sl.v ⟨_, cap, rfl, h1, h2, .inr ⟨b, off, [], by simp, rfl, rfl, (Array.getElem?_eq_some_iff.1 hB).1, ?_⟩⟩, ?_⟩ (by simp [Res.own]) (fun c hc => .inl (by simpa [Res.own, Res.bx] using hc))⟩
  ·refine hE.at off ?_
   intro j u hj
   have := bQ hB (off + j) u (sS hj)
   simpa using this
  intro c hc
  simp at hc; subst hc
  exact ⟨_, _, hB⟩
section
variable {P : Program} {n : Nat} {f : Nat → Value} {w0 W : World} {rs : List Res} {Q : Exit → Act → World → Prop} {d : Option Tmp} {ty : TypeId} {pos : String} {af : Array Go.Edge} {g : Option (Nat × Bool)} {K : Value → World → Prop}
theorem stp_clearb {t e e' : TypeId} {x : Operand} {b o m c : Nat} {C zs : List Value} (hT : P.underlying t = some (.slice e)) (hz : ((P.info? e).bind (·.zero)).map (·.cells) = some zs.toArray) (hzl : zs.length = 4) (hz1 : ∀ v ∈ zs, v.oneCell' = true) (hx : ev n f x = .slice (some ⟨b, o, none⟩) m c) (hm : 0 < m) (hst : St w0 W (Res.bx b C e' :: rs)) (hle : o + m * 4 ≤ C.length)
  (k : ∀ Z W', Z.length = m * 4 → St w0 W' (Res.bx b (cC C o Z) e' :: rs) → K (.tuple #[]) W') : Stp P n ⟨d, .call { callee := .builtin .clear, args := #[x], argTypes := #[t] }, ty, pos, af, g⟩ f W Q K := by
 have hB : W.heap[b]? = some (.cells C.toArray e' (0, 0)) := hst.get 0 rfl
 have hZl : (Builtin.zeroCells zs.toArray m).toList.length = m * 4 := by rw [Array.length_toList, size_zeroCells, size_toArray, hzl]
 cases hi : P.info? e with
 | none => simp [hi] at hz
 | some i =>
  cases hzz : i.zero with
  | none => simp [hi, hzz] at hz
  | some z =>
   have hzc : z.cells = zs.toArray := by simpa [hi, hzz] using hz
   have s : ∀ v ∈ (Builtin.zeroCells zs.toArray m).toList, v.oneCell' = true := by
    intro v hv
    simp only [Builtin.zeroCells, Array.toList_map, mem_map] at hv
    obtain ⟨j, _, rfl⟩ := hv
    have hj : j % zs.length < zs.length := Nat.mod_lt _ aE
    have hq : zs.toArray[j % zs.toArray.size]! = zs[j % zs.length] := by simp [hj]
    first | (rw [hq]; exact hz1 _ (getElem_mem _)) | (simp only [size_toArray] at *; rw [hq]; exact hz1 _ (getElem_mem _))
   have a := run_storeCells_cells (P := P) b o (Builtin.zeroCells zs.toArray m).toList 0 W (fun j hj => by simp [World.cell?, hB]; omega) (fun j hj => by simp [World.frozen?, hB]) s
   simp only [Nat.add_zero] at a
   have hr : (Builtin.clear_ #[t] ty #[.slice (some ⟨b, o, none⟩) m c]).run P W = .ok (.tuple #[]) (W.setCells b o (Builtin.zeroCells zs.toArray m).toList) := by
    obtain ⟨m', rfl⟩ : ∃ m', m = m' + 1 := ⟨m - 1, by omega⟩
    simp [Builtin.clear_, run_underlying hT, zeroValue, typeInfo, hi, hzz, hzc, a]
   refine Stp.run (v := .tuple #[]) (W' := W.setCells b o (Builtin.zeroCells zs.toArray m).toList) ?_ (k _ _ hZl (hst.store o _ (by rw [hZl]; exact hle)))
   simp only [execOp, resolve, invoke, builtin, Sem.run_bind, Sem.run_pure, Result.andThen_ok, map_toArray, map_cons, map_nil, hx, hr]
end
theorem splice_front {W W' : World} {C Z : List Value} {off i : Nat} {xs : List Entry} (hi : i ≤ xs.length) (hE : Elems W ((C.drop off).take (xs.length * 4)) xs []) (hle : off + xs.length * 4 ≤ C.length) (hZ : Z.length = (xs.length - i) * 4) : Elems W' (((cC C (off + i * 4) Z).drop off).take (i * 4)) (xs.take i) [] := by
 have s := (hE.parts i hi).1
 have t : (((C.drop off).take (xs.length * 4)).take (i * Shape.size Entry)) = (C.drop off).take (i * 4) := by
  rw [take_take]
  congr 1
  show min (i * 4) (xs.length * 4) = i * 4
  omega
 rw [t] at s
 have a : (((cC C (off + i * 4) Z).drop off).take (i * 4)) = (C.drop off).take (i * 4) := by
  rw [qD _ _ _ aE, append_assoc, drop_append_of_le_length (by rw [length_take]; omega), take_append_of_le_length (by rw [length_drop, length_take]; omega), drop_take, take_take]
  congr 1
  omega
 rw [a]
 exact s.entry
theorem sl_ok {w : World} {v : Value} {xs : List Entry} {fp : List Nat} {i : Nat} {e : Entry} (h : Sl w v xs fp) (he : xs[i]? = some e) : e.ok := by
 obtain ⟨_, _, _, _, _, _, hc, _⟩ := eB h he
 exact hc.2.2
def lK : Entry := ⟨0, 0, 0, 0⟩
theorem vict_to {home draw : Int} {k : Nat} (h : k < 3) : (cT home draw).take (k + 1) = (cT home draw).take k ++ [nW home draw k] := by
 rcases k with _ | _ | _ | k
 ·rfl
 ·rfl
 ·rfl
 omega
def gA (home : Int) (k : Nat) : List Int := [(home + 1) % 4, (home + 2) % 4, (home + 3) % 4].take (k - 1)
theorem aO6 {home : Int} {k : Nat} (h : 1 ≤ k) (h2 : k < 4) : gA home (k + 1) = gA home k ++ [(home + (k : Int)) % 4] := by
 rcases k with _ | _ | _ | _ | k
 ·omega
 ·rfl
 ·rfl
 ·rfl
 omega
theorem oth_4 (home : Int) : gA home 4 = [(home + 1) % 4, (home + 2) % 4, (home + 3) % 4] := rfl
theorem aF5 {home draw d : Int} (hd : d = max draw 0 % 3) : ([] ++ (gA home 4).drop d.toNat) ++ (gA home 4).take d.toNat = cT home draw := by
 rw [oth_4]
 have s : d = 0 ∨ d = 1 ∨ d = 2 := by omega
 unfold cT nW
 rw [← hd]
 rcases s with rfl | rfl | rfl
 ·simp only [Int.toNat_zero, drop_zero, take_zero, append_nil, nil_append, List.cons.injEq, and_true]
  omega
 ·show [(home + 2) % 4, (home + 3) % 4, (home + 1) % 4] = _
  simp only [List.cons.injEq, and_true]
  omega
 show [(home + 3) % 4, (home + 1) % 4, (home + 2) % 4] = _
 simp only [List.cons.injEq, and_true]
 omega

theorem BroughtI (n a b : Int) (h : a ≤ n ∧ n ≤ b) :
  Calls prog 191 #[I n, I a, I b] w (rI_ n w) := by
 refine iS func191 rfl ntmps191 aZ (wp_seq (aA (sg (aG (aB (wp_seq (wp_seq (aA ?_))))))))
 rcases nem (b < a) with s | s
 ·have t := decide_eq_false s
  refine rn (St.start w) 8 Ag.nil.put.put.put.put [] [(14, .bool (decide (n < a)))] [qk t, .o] aD fun f5 c => (aB (aP (c.at 14) (fun d => ?_) (fun d => ?_)))
  ·omega
  refine wp_skip (wp_seq (aA (rn (St.start w) 4 c [6] [(6, I (min n b))] [] aD fun f8 g => (aB (wr (bA results191 (g.at 6) ?_))))))
  exact ⟨fI aE, (St.start w).bare⟩
 have t := decide_eq_true s
 omega
theorem BroughtS (n a b : Int) (h : a ≤ n ∧ n ≤ b) :
  Calls prog 186 #[I n, I a, I b] w (rI_ n w) := by
 refine iS func186 rfl ntmps186 aZ (wp_seq (aA (sg (aG (aB (wp_seq (wp_seq (aA ?_))))))))
 rcases nem (b < a) with s | s
 ·have t := decide_eq_false s
  refine rn (St.start w) 8 Ag.nil.put.put.put.put [] [(14, .bool (decide (n < a)))] [qk t, .o] aD fun f5 c => (aB (aP (c.at 14) (fun d => ?_) (fun d => ?_)))
  ·omega
  refine wp_skip (wp_seq (wp_seq (aA (rn (St.start w) 3 c [] [(18, .bool (decide (b < n)))] [.o] aD fun f8 g => (aB (aP (g.at 18) (fun j => ?_) (fun j => ?_)))))))
  ·omega
  refine wp_skip (wp_seq (aA (sg (aH (g.at 0) (sg (aF (v := I n) rfl (aB (wr (bA results186 rfl ?_)))))))))
  exact ⟨fI aE, (St.start w).bare⟩
 have t := decide_eq_true s
 omega
theorem VictimsI (home draw : Int) (hh : 0 ≤ home ∧ home ≤ 3) (hdw : I64 draw) :
  Calls prog 131 #[I home, I draw] w fun e w' => ∃ (v : Value) (fp' : List Nat), e = .returned v ∧ St w w' [Res.own (α := List Int) v (cT home draw) fp'] := by
 have t := hdw
 unfold I64 at t
 refine bY func131 rfl ntmps131 aZ (wp_seq (aA (sg (aF (v := .slice none 0 0) rfl (aB (wp_seq (aA (rc (St.start w) 3 Ag.nil.put.put.put [0] [(0, I home)] [qc func191 rfl (fun W s b => BroughtI W home 0 3 aE)] aD fun f4 a c d g => (aB (wp_seq (aA (sg (aF (v := .slice none 0 0) rfl ?_)))))))))))))
 refine aB (wp_seq (wp_seq (aA (sg (aG (aB (wp_block ?_)))))))
 have t := d.row_nil (α := Int) 3
 refine bF (fun (m : Nat) (f : Nat → Value) (W : World) => ∃ (k : Nat) (a : Value), k ≤ 3 ∧ m = 3 - k ∧ Ag [(0, I home), (1, I draw), (5, a), (6, I (k : Int))] f ∧ St w W ([Res.row (α := Int) 3 a ((cT home draw).take k) []])) (3 - 0) ?_ ?_
 ·exact ⟨0, (.slice none 0 0), aE, rfl, (c.put.put.to aD), t⟩
 intro d g j n
 obtain ⟨k, a, p, rfl, q, z⟩ := n
 have hvl := length_take_le k (cT home draw)
 have A : (cT home draw).length = 3 := rfl
 refine wp_seq (wp_seq (aA (sg (aH (q.at 6) (sg (bU rfl rfl (aB (aP rfl (fun t => ?_) (fun t => ?_)))))))))
 ·refine wp_skip (wp_seq (wp_block (aA (rn z 4 q.put.put [] [(13, a), (15, I (home + 1)), (16, I draw)] [qad home 1] aD fun c d => (sg (stp_max (d.at 16) rfl (rn z 6 d.put [] [(23, I (((home + 1) + ((((max draw 0) % 3) + (k : Int)) % 3)) % 4))] [qq (max draw 0) 3, qad ((max draw 0) % 3) (k : Int), qq (((max draw 0) % 3) + (k : Int)) 3, qad (home + 1) ((((max draw 0) % 3) + (k : Int)) % 3), qq ((home + 1) + ((((max draw 0) % 3) + (k : Int)) % 3)) 4] aD fun t c => (sg (aU (cs := [I (((home + 1) + ((((max draw 0) % 3) + (k : Int)) % 3)) % 4)]) (e := 3) (bR (c.at 23) dJ) (bG cP _ _ rfl rfl aZ) z ?_))))))))); intro d g j n
  refine sg (cA (ys := [((home + 1) + ((((max draw 0) % 3) + (k : Int)) % 3)) % 4]) cP (c.at 13) rfl rfl n.f1 (Elems.ic (by simp only [I64]; omega) Elems.i0) (by unfold maxLen; omega) aE ?_); intro t p A
  refine sg (aF (v := t) rfl (aB (aA (rn A 3 c.put.put.put [6] [(6, I ((k : Int) + 1))] [qad (k : Int) 1] aD fun d g => (aB ?_)))))
  exact ⟨_, 3 - (k + 1), aE, rfl, k + 1, t, aE, rfl, (g.to aD), (by rw [vict_to aE]; exact A)⟩
 refine wp_exit (wp_seq (aA (sg (aH (q.at 5) (sg (aF (v := a) rfl (aB (wr (bA results131 rfl ?_)))))))))
 obtain rfl : k = 3 := by omega
 rw [show (cT home draw).take 3 = cT home draw from rfl] at z
 have t := z.shut
 obtain ⟨fpz, stz⟩ := t
 exact ⟨_, fpz, rfl, stz.only 0 rfl⟩
theorem VictimsS (home draw : Int) (hh : 0 ≤ home ∧ home ≤ 3) (hdw : I64 draw) :
  Calls prog 122 #[I home, I draw] w fun e w' => ∃ (v : Value) (fp' : List Nat), e = .returned v ∧ St w w' [Res.own (α := List Int) v (cT home draw) fp'] := by
 have t := hdw
 unfold I64 at t
 refine bY func122 rfl ntmps122 aZ (wp_seq (aA (sg (aF (v := .slice none 0 0) rfl (aB (wp_seq (aA (rc (St.start w) 3 Ag.nil.put.put.put [0] [(0, I home)] [qc func186 rfl (fun W s b => BroughtS W home 0 3 aE)] aD fun f4 a c g j => (aB (wp_seq (wp_seq (aA ?_))))))))))))
 refine sg (aH (c.at 1) (sg (bU rfl rfl (aB (aP rfl (fun t => ?_) (fun t => ?_))))))
 ·refine aA (sg (aG (aB (wp_seq (aA (sg (aU (cs := []) (e := 3) dJ (bT cP _) g ?_))))))); intro a j n p
  have p := p.row_empty (α := Int)
  refine sg (aF (v := (.slice (some ⟨a, 0, none⟩) 0 0)) rfl (aB (wp_seq (wp_seq (aA (sg (aG (aB (wp_block (bF (fun (m : Nat) (f : Nat → Value) (W : World) => ∃ (k : Nat) (q : Value), 1 ≤ k ∧ k ≤ 4 ∧ m = 4 - k ∧ Ag [(0, I home), (1, I 0), (5, q), (6, I (k : Int))] f ∧ St w W ([Res.row (α := Int) 3 q (gA home k) []])) (4 - 1) ?_ ?_))))))))))
  ·exact ⟨1, (.slice (some ⟨a, 0, none⟩) 0 0), aE, aE, rfl, (c.put.put.put.put.put.put.to aD), p⟩
  intro t j z n
  obtain ⟨k, q, A, B, rfl, C, D⟩ := n
  have hol : (gA home k).length ≤ 3 := by unfold gA; rw [length_take]; exact Nat.min_le_right _ _
  refine wp_seq (wp_seq (aA (sg (aH (C.at 6) (sg (bU rfl rfl (aB (aP rfl (fun t => ?_) (fun t => ?_)))))))))
  ·refine wp_skip (wp_seq (wp_block (aA (rn D 5 C.put.put [] [(17, q), (21, I ((home + (k : Int)) % 4))] [qad home (k : Int), qq (home + (k : Int)) 4] aD fun a j => (sg (aU (cs := [I ((home + (k : Int)) % 4)]) (e := 3) (bR (j.at 21) dJ) (bG cP _ _ rfl rfl aZ) D ?_)))))); intro t n p A
   refine sg (cA (ys := [(home + (k : Int)) % 4]) cP (j.at 17) rfl rfl A.f1 (Elems.ic (by simp only [I64]; omega) Elems.i0) (by unfold maxLen; omega) aE ?_); intro a B E
   refine sg (aF (v := a) rfl (aB (aA (rn E 3 j.put.put.put [6] [(6, I ((k : Int) + 1))] [qad (k : Int) 1] aD fun t n => (aB ?_)))))
   exact ⟨_, 4 - (k + 1), aE, rfl, k + 1, a, aE, aE, rfl, (n.to aD), (by rw [aO6 aE aE]; exact E)⟩
  refine wp_exit (wp_seq ?_)
  obtain rfl : k = 4 := by omega
  have F : (gA home 4).length = 3 := rfl
  have ho3i : ((gA home 4).length : Int) = 3 := rfl
  refine aA (rn D 3 C.put.put [] [(24, I 0), (26, I ((gA home 4).length : Int))] [ql (bX (D.get 0 rfl))] aD fun t a => (sg (vI (a.at 24) ((a.at 26).trans (congrArg I ho3i)) aE aE (sg (aF (v := I ((0 : Int) % 3)) rfl (aB (wp_seq ?_)))))))
  have G := yU (bX (D.get 0 rfl)) (l := ((0 : Int) % 3).toNat) aE
  obtain ⟨j, n, H, p, A⟩ := G
  have G := aE1 (bX (D.get 0 rfl)) (h := ((0 : Int) % 3).toNat) aE
  obtain ⟨t, B, J, C, E⟩ := G
  refine cK 8 [(some 0, some 4, .of (ι := Nat) [28] (fun K => [(.slice (some ⟨K, 0, none⟩) 0 0)]) (fun K => Res.row (α := Int) 3 (.slice (some ⟨K, 0, none⟩) 0 0) [] [])), (some 4, none, .of (ι := Value) [32] (fun L => [L]) (fun L => Res.row (α := Int) 3 L ([] ++ ((gA home 4).drop ((0 : Int) % 3).toNat)) []))] [(false, .ex (fun (K : Nat) => (.slice (some ⟨K, 0, none⟩) 0 0))), (true, .is (q)), (true, .is (I ((0 : Int) % 3))), (true, .is j), (false, .ex (fun (L : Value) => L)), (true, .is (q)), (true, .is (I ((0 : Int) % 3))), (true, .is t)] mix aD aD aD aD (rs0 := []) rfl (St.start z) (St.start z).below ⟨?_, (mq_ (a.at 5)), (mq_ (show _ = I ((0 : Int) % 3) from rfl)), (fun f W hst hbl hd hf => A eG (hd 1 29 rfl rfl) (hd 2 30 rfl rfl) aE brq), ?_, (mq_ (a.at 5)), (mq_ (show _ = I ((0 : Int) % 3) from rfl)), (fun f W hst hbl hd hf => E eG (hd 5 33 rfl rfl) (hd 6 34 rfl rfl) aE brq), trivial⟩ ?_
  ·intro f W ru oth hu hst hbl hd hf
   have M : ru = [] := hu
   subst M
   try simp only [cap_, cL] at hst
   refine (aU (cs := []) (e := 3) dJ (bT cP _) hst ?_); intro K t a j
   have j := j.row_empty (α := Int)
   exact ⟨⟨K, rfl⟩, ⟨_, ⟨_, _, rfl, ⟨K, (ce rfl rfl), rfl⟩, rfl⟩, j⟩, j.below⟩
  ·intro f W ru oth hu hst hbl hd hf
   obtain ⟨_, _, rfl, ⟨K, n, rfl⟩, M⟩ := hu
   have M : _ = [] := M
   subst M
   have t : f 28 = (.slice (some ⟨K, 0, none⟩) 0 0) := congrArg (fun l => l.getD 0 undef) n
   try simp only [cap_, cL] at hst
   refine (cX qJ cP t (hd 3 31 rfl rfl) H hst.below hst (by unfold maxLen; simp only [length_append, length_drop, length_take, length_nil, F]; omega) (by simp only [length_append, length_drop, length_take, length_nil, F]; omega) ?_); intro L a j
   exact ⟨⟨L, rfl⟩, ⟨_, ⟨_, _, rfl, ⟨L, (ce rfl rfl), rfl⟩, rfl⟩, j⟩, j.below⟩
  intro t n rs_ hAL_ p q z A
  obtain ⟨_, _, rfl, ⟨L, B, rfl⟩, M⟩ := hAL_
  have M : _ = [] := M
  subst M
  have a : t 32 = L := congrArg (fun l => l.getD 0 undef) B
  try simp only [cap_, cL] at p
  refine sg (cX qJ cP a (z 7 35 aZ rfl) J p.below p (by unfold maxLen; simp only [length_append, length_drop, length_take, length_nil, F]; omega) (by simp only [length_append, length_drop, length_take, length_nil, F]; omega) ?_); intro t j n
  refine sg (aF (v := t) rfl (aB (wr (bA results122 rfl ?_))))
  have a := St.call D n
  have hv_ := aF5 (home := home) (draw := draw) (d := (0 : Int) % 3) aE
  have hst_ := a
  rw [hv_] at hst_
  have G := hst_.shut
  obtain ⟨fpz, stz⟩ := G
  exact ⟨_, fpz, rfl, stz.only 0 rfl⟩
 refine wp_skip (wp_seq (aA (sg (aU (cs := []) (e := 3) dJ (bT cP _) g ?_)))); intro t j n p
 have p := p.row_empty (α := Int)
 refine sg (aF (v := (.slice (some ⟨t, 0, none⟩) 0 0)) rfl (aB (wp_seq (wp_seq (aA (sg (aG (aB (wp_block (bF (fun (m : Nat) (f : Nat → Value) (W : World) => ∃ (k : Nat) (N : Value), 1 ≤ k ∧ k ≤ 4 ∧ m = 4 - k ∧ Ag [(0, I home), (1, I draw), (5, N), (6, I (k : Int))] f ∧ St w W ([Res.row (α := Int) 3 N (gA home k) []])) (4 - 1) ?_ ?_))))))))))
 ·exact ⟨1, (.slice (some ⟨t, 0, none⟩) 0 0), aE, aE, rfl, (c.put.put.put.put.put.to aD), p⟩
 intro a g O j
 obtain ⟨k, N, n, q, rfl, P, R⟩ := j
 have hol : (gA home k).length ≤ 3 := by unfold gA; rw [length_take]; exact Nat.min_le_right _ _
 refine wp_seq (wp_seq (aA (sg (aH (P.at 6) (sg (bU rfl rfl (aB (aP rfl (fun t => ?_) (fun t => ?_)))))))))
 ·refine wp_skip (wp_seq (wp_block (aA (rn R 5 P.put.put [] [(17, N), (21, I ((home + (k : Int)) % 4))] [qad home (k : Int), qq (home + (k : Int)) 4] aD fun a c => (sg (aU (cs := [I ((home + (k : Int)) % 4)]) (e := 3) (bR (c.at 21) dJ) (bG cP _ _ rfl rfl aZ) R ?_)))))); intro t g j n
  refine sg (cA (ys := [(home + (k : Int)) % 4]) cP (c.at 17) rfl rfl n.f1 (Elems.ic (by simp only [I64]; omega) Elems.i0) (by unfold maxLen; omega) aE ?_); intro a p q
  refine sg (aF (v := a) rfl (aB (aA (rn q 3 c.put.put.put [6] [(6, I ((k : Int) + 1))] [qad (k : Int) 1] aD fun t g => (aB ?_)))))
  exact ⟨_, 4 - (k + 1), aE, rfl, k + 1, a, aE, aE, rfl, (g.to aD), (by rw [aO6 aE aE]; exact q)⟩
 refine wp_exit (wp_seq ?_)
 obtain rfl : k = 4 := by omega
 have F : (gA home 4).length = 3 := rfl
 have ho3i : ((gA home 4).length : Int) = 3 := rfl
 refine aA (rn R 3 P.put.put [] [(24, I draw), (26, I ((gA home 4).length : Int))] [ql (bX (R.get 0 rfl))] aD fun t a => (sg (vI (a.at 24) ((a.at 26).trans (congrArg I ho3i)) aE aE (sg (aF (v := I (draw % 3)) rfl (aB (wp_seq ?_)))))))
 have G := yU (bX (R.get 0 rfl)) (l := (draw % 3).toNat) aE
 obtain ⟨c, g, S, j, n⟩ := G
 have G := aE1 (bX (R.get 0 rfl)) (h := (draw % 3).toNat) aE
 obtain ⟨t, p, T, q, z⟩ := G
 refine cK 8 [(some 0, some 4, .of (ι := Nat) [28] (fun U => [(.slice (some ⟨U, 0, none⟩) 0 0)]) (fun U => Res.row (α := Int) 3 (.slice (some ⟨U, 0, none⟩) 0 0) [] [])), (some 4, none, .of (ι := Value) [32] (fun X => [X]) (fun X => Res.row (α := Int) 3 X ([] ++ ((gA home 4).drop (draw % 3).toNat)) []))] [(false, .ex (fun (U : Nat) => (.slice (some ⟨U, 0, none⟩) 0 0))), (true, .is (N)), (true, .is (I (draw % 3))), (true, .is c), (false, .ex (fun (X : Value) => X)), (true, .is (N)), (true, .is (I (draw % 3))), (true, .is t)] mix aD aD aD aD (rs0 := []) rfl (St.start O) (St.start O).below ⟨?_, (mq_ (a.at 5)), (mq_ (show _ = I (draw % 3) from rfl)), (fun f W hst hbl hd hf => n eG (hd 1 29 rfl rfl) (hd 2 30 rfl rfl) aE brq), ?_, (mq_ (a.at 5)), (mq_ (show _ = I (draw % 3) from rfl)), (fun f W hst hbl hd hf => z eG (hd 5 33 rfl rfl) (hd 6 34 rfl rfl) aE brq), trivial⟩ ?_
 ·intro f W ru oth hu hst hbl hd hf
  have M : ru = [] := hu
  subst M
  try simp only [cap_, cL] at hst
  refine (aU (cs := []) (e := 3) dJ (bT cP _) hst ?_); intro U t a c
  have c := c.row_empty (α := Int)
  exact ⟨⟨U, rfl⟩, ⟨_, ⟨_, _, rfl, ⟨U, (ce rfl rfl), rfl⟩, rfl⟩, c⟩, c.below⟩
 ·intro f W ru oth hu hst hbl hd hf
  obtain ⟨_, _, rfl, ⟨U, g, rfl⟩, M⟩ := hu
  have M : _ = [] := M
  subst M
  have t : f 28 = (.slice (some ⟨U, 0, none⟩) 0 0) := congrArg (fun l => l.getD 0 undef) g
  try simp only [cap_, cL] at hst
  refine (cX qJ cP t (hd 3 31 rfl rfl) S hst.below hst (by unfold maxLen; simp only [length_append, length_drop, length_take, length_nil, F]; omega) (by simp only [length_append, length_drop, length_take, length_nil, F]; omega) ?_); intro X a c
  exact ⟨⟨X, rfl⟩, ⟨_, ⟨_, _, rfl, ⟨X, (ce rfl rfl), rfl⟩, rfl⟩, c⟩, c.below⟩
 intro t g rs_ hAL_ j n p q
 obtain ⟨_, _, rfl, ⟨X, z, rfl⟩, M⟩ := hAL_
 have M : _ = [] := M
 subst M
 have a : t 32 = X := congrArg (fun l => l.getD 0 undef) z
 try simp only [cap_, cL] at j
 refine sg (cX qJ cP a (p 7 35 aZ rfl) T j.below j (by unfold maxLen; simp only [length_append, length_drop, length_take, length_nil, F]; omega) (by simp only [length_append, length_drop, length_take, length_nil, F]; omega) ?_); intro t c g
 refine sg (aF (v := t) rfl (aB (wr (bA results122 rfl ?_))))
 have a := St.call R g
 have hv_ := aF5 (home := home) (draw := draw) (d := draw % 3) aE
 have hst_ := a
 rw [hv_] at hst_
 have G := hst_.shut
 obtain ⟨fpz, stz⟩ := G
 exact ⟨_, fpz, rfl, stz.only 0 rfl⟩
theorem HalfOfI {v : Value} {xs : List Entry} {fp : List Nat} (h : Sl w v xs fp) (hxl : xs.length ≤ 1048576) :
  Calls prog 132 #[v] w fun e w' => ∃ (v1 : Value) (fp1 : List Nat) (v2 : Value) (fp2 : List Nat), e = .returned (.tuple #[v1, v2]) ∧ St w w' [Res.own v1 (xs.take (jA xs)) fp1, Res.own v2 (xs.drop (jA xs)) fp2] := by
 have hnl : ([] : List Entry).length = 0 := rfl
 refine cN func132 rfl ntmps132 aZ (wp_seq (aA (sg (aF (v := .slice none 0 0) rfl (sg (aF (v := .slice none 0 0) rfl (aB (wp_seq (aA (rn (St.start w) 5 Ag.nil.put.put.put [] [(4, I (((xs.length : Int) + 1) / 2))] [ql h, qad (xs.length : Int) 1, qq ((xs.length : Int) + 1) 2] aD fun f4 s => (aB (wp_seq ?_))))))))))))
 have hhn : (((xs.length : Int) + 1) / 2).toNat = jA xs := by unfold jA; omega
 have htl : (xs.take (((xs.length : Int) + 1) / 2).toNat).length ≤ xs.length := by rw [length_take]; omega
 have hdl : (xs.drop (((xs.length : Int) + 1) / 2).toNat).length ≤ xs.length := by rw [length_drop]; omega
 have t := aE1 h (h := (((xs.length : Int) + 1) / 2).toNat) aE
 obtain ⟨a, b, c, d, g⟩ := t
 have t := yU h (l := (((xs.length : Int) + 1) / 2).toNat) aE
 obtain ⟨j, n, p, q, z⟩ := t
 refine cK 7 [(some 3, none, .of (ι := Value) [12] (fun A => [A]) (fun A => Res.row (α := Entry) 131 A (xs.take (((xs.length : Int) + 1) / 2).toNat) []))] [(true, .is (v)), (true, .is (I (((xs.length : Int) + 1) / 2))), (true, .is a), (false, .ex (fun (A : Value) => A)), (true, .is (v)), (true, .is (I (((xs.length : Int) + 1) / 2))), (true, .is j)] mix aD aD aD aD (rs0 := []) rfl (St.start w) (Below.refl _ _) ⟨(mq_ (s.at 0)), (mq_ (s.at 4)), (fun f W hst hbl hd hf => g sl_EntryS (hd 0 9 rfl rfl) (hd 1 10 rfl rfl) aE brq), ?_, (mq_ (s.at 0)), (mq_ (s.at 4)), (fun f W hst hbl hd hf => z sl_EntryS (hd 4 13 rfl rfl) (hd 5 14 rfl rfl) aE brq), trivial⟩ ?_
 ·intro f W ru oth hu hst hbl hd hf
  have a : ru = [] := hu
  subst a
  try simp only [cap_, cL] at hst
  refine (bC func174 rfl (hd 2 11 rfl rfl) ((iL W (c.below hst.below) aE).mono ?_)); rintro _ s ⟨A, rfl, b⟩; refine ⟨_, rfl, ?_⟩
  have d := St.call hst b
  exact ⟨⟨A, rfl⟩, ⟨_, ⟨_, _, rfl, ⟨A, (ce rfl rfl), rfl⟩, rfl⟩, d⟩, (hbl.trans (Below.mono b.below hbl.size))⟩
 intro g j rs_ hAL_ c n q z
 obtain ⟨_, _, rfl, ⟨A, s, rfl⟩, a⟩ := hAL_
 have a : _ = [] := a
 subst a
 have B : g 12 = A := congrArg (fun l => l.getD 0 undef) s
 try simp only [cap_, cL] at c
 refine sg (bC func174 rfl (q 6 15 aZ rfl) ((iL j (p.below c.below) aE).mono ?_)); rintro _ b ⟨d, rfl, n⟩; refine ⟨_, rfl, ?_⟩
 have a := St.call c n
 refine sg (aF (v := A) B (sg (aF (v := d) rfl (aB (wr (ret2 results132 rfl rfl ?_))))))
 have t := a.shut
 obtain ⟨s, g⟩ := t
 have t := g.f1.shut
 obtain ⟨b, j⟩ := t
 have p := j.f1.f1
 rw [hhn] at p
 exact ⟨_, _, _, _, rfl, p⟩
theorem HalfOfS {v : Value} {xs : List Entry} {fp : List Nat} (h : Sl w v xs fp) (hxl : xs.length ≤ 1048576) :
  Calls prog 123 #[v] w fun e w' => ∃ (v1 : Value) (fp1 : List Nat) (v2 : Value) (fp2 : List Nat), e = .returned (.tuple #[v1, v2]) ∧ St w w' [Res.own v1 (xs.take (jA xs)) fp1, Res.own v2 (xs.drop (jA xs)) fp2] := by
 have hnl : ([] : List Entry).length = 0 := rfl
 refine cN func123 rfl ntmps123 aZ (wp_seq (aA (sg (aF (v := .slice none 0 0) rfl (sg (aF (v := .slice none 0 0) rfl (aB (wp_seq (aA (rn (St.start w) 5 Ag.nil.put.put.put [] [(4, I (((xs.length : Int) + 1) / 2))] [ql h, qad (xs.length : Int) 1, qq ((xs.length : Int) + 1) 2] aD fun f4 s => (aB (wp_seq ?_))))))))))))
 have hhn : (((xs.length : Int) + 1) / 2).toNat = jA xs := by unfold jA; omega
 have htl : (xs.take (((xs.length : Int) + 1) / 2).toNat).length ≤ xs.length := by rw [length_take]; omega
 have hdl : (xs.drop (((xs.length : Int) + 1) / 2).toNat).length ≤ xs.length := by rw [length_drop]; omega
 have t := aE1 h (h := (((xs.length : Int) + 1) / 2).toNat) aE
 obtain ⟨a, b, c, d, g⟩ := t
 have t := yU h (l := (((xs.length : Int) + 1) / 2).toNat) aE
 obtain ⟨j, n, p, q, z⟩ := t
 refine cK 9 [(some 0, some 4, .of (ι := Nat) [9] (fun A => [(.slice (some ⟨A, 0, none⟩) 0 0)]) (fun A => Res.row (α := Entry) 131 (.slice (some ⟨A, 0, none⟩) 0 0) [] [])), (some 4, none, .of (ι := Value) [13] (fun B => [B]) (fun B => Res.row (α := Entry) 131 B ([] ++ (xs.take (((xs.length : Int) + 1) / 2).toNat)) [])), (some 5, none, .of (ι := Nat) [14] (fun C => [(.slice (some ⟨C, 0, none⟩) 0 0)]) (fun C => Res.row (α := Entry) 131 (.slice (some ⟨C, 0, none⟩) 0 0) [] []))] [(false, .ex (fun (A : Nat) => (.slice (some ⟨A, 0, none⟩) 0 0))), (true, .is (v)), (true, .is (I (((xs.length : Int) + 1) / 2))), (true, .is a), (false, .ex (fun (B : Value) => B)), (false, .ex (fun (C : Nat) => (.slice (some ⟨C, 0, none⟩) 0 0))), (true, .is (v)), (true, .is (I (((xs.length : Int) + 1) / 2))), (true, .is j)] mix aD aD aD aD (rs0 := []) rfl (St.start w) (St.start w).below ⟨?_, (mq_ (s.at 0)), (mq_ (s.at 4)), (fun f W hst hbl hd hf => g sl_EntryS (hd 1 10 rfl rfl) (hd 2 11 rfl rfl) aE brq), ?_, ?_, (mq_ (s.at 0)), (mq_ (s.at 4)), (fun f W hst hbl hd hf => z sl_EntryS (hd 6 15 rfl rfl) (hd 7 16 rfl rfl) aE brq), trivial⟩ ?_
 ·intro f W ru oth hu hst hbl hd hf
  have D : ru = [] := hu
  subst D
  try simp only [cap_, cL] at hst
  refine (aU (cs := []) (e := 131) dJ (bT cG _) hst ?_); intro A s a b
  have b := b.row_empty (α := Entry)
  exact ⟨⟨A, rfl⟩, ⟨_, ⟨_, _, rfl, ⟨A, (ce rfl rfl), rfl⟩, rfl⟩, b⟩, b.below⟩
 ·intro f W ru oth hu hst hbl hd hf
  obtain ⟨_, _, rfl, ⟨A, d, rfl⟩, D⟩ := hu
  have D : _ = [] := D
  subst D
  have s : f 9 = (.slice (some ⟨A, 0, none⟩) 0 0) := congrArg (fun l => l.getD 0 undef) d
  try simp only [cap_, cL] at hst
  refine (cX fE cG s (hd 3 12 rfl rfl) c hst.below hst (by unfold maxLen; omega) aE ?_); intro B a b
  exact ⟨⟨B, rfl⟩, ⟨_, ⟨_, _, rfl, ⟨B, (ce rfl rfl), rfl⟩, rfl⟩, b⟩, b.below⟩
 ·intro f W ru oth hu hst hbl hd hf
  have D : ru = [] := hu
  subst D
  try simp only [cap_, cL] at hst
  refine (aU (cs := []) (e := 131) dJ (bT cG _) hst ?_); intro C s a c
  have c := c.row_empty (α := Entry)
  exact ⟨⟨C, rfl⟩, ⟨_, ⟨_, _, rfl, ⟨C, (ce rfl rfl), rfl⟩, rfl⟩, c⟩, c.below⟩
 intro b d rs_ hAL_ g j n q
 obtain ⟨_, _, rfl, ⟨B, z, rfl⟩, _, _, rfl, ⟨C, s, rfl⟩, D⟩ := hAL_
 have D : _ = [] := D
 subst D
 have a : b 13 = B := congrArg (fun l => l.getD 0 undef) z
 have c : b 14 = (.slice (some ⟨C, 0, none⟩) 0 0) := congrArg (fun l => l.getD 0 undef) s
 try simp only [cap_, cL] at g
 have d := g.f1
 refine sg (cX fE cG c (n 8 17 aZ rfl) p d.below d (by unfold maxLen; omega) aE ?_); intro j q b
 refine sg (aF (v := B) a (sg (aF (v := j) rfl (aB (wr (ret2 results123 rfl rfl ?_))))))
 have t := b.shut
 obtain ⟨s, g⟩ := t
 have t := g.f1.shut
 obtain ⟨c, d⟩ := t
 have n := d.f1.f1
 rw [hhn] at n
 exact ⟨_, _, _, _, rfl, n⟩
theorem TakeI {v : Value} {xs : List Entry} {fp : List Nat} (h : Sl w v xs fp) (hxl : xs.length ≤ 1048576) :
  Calls prog 134 #[v] w fun e w' => ∃ (v1 : Value) (fp1 : List Nat), e = .returned (.tuple #[.agg #[I (xs.headD lK).prio, I (xs.headD lK).seq, I (xs.headD lK).run, I (xs.headD lK).task], v1, .bool (!decide (xs = []))]) ∧ (xs.headD lK).ok ∧ St w w' [Res.own v1 (xs.drop 1) fp1] := by
 have hnl : ([] : List Entry).length = 0 := rfl
 refine cN func134 rfl ntmps134 aZ (wp_seq (aA (sg (aQ iU (St.start w) ?_)))); intro s t b c
 refine sg (aF (v := .slice none 0 0) rfl (sg (aG (aB (wp_seq (wp_seq (aA (rn c 3 Ag.nil.put.put.put.put [] [(7, .bool (decide ((xs.length : Int) = 0)))] [ql h, .o] aD fun f9 d => (aB (aP (d.at 7) (fun g => ?_) (fun g => ?_)))))))))))
 ·refine wp_seq (aA (sg (dD (vs := []) (cs := [I 0, I 0, I 0, I 0]) dJ aD (sgn (aK aD (d.at 2) rfl (aC rfl (aC rfl (aC rfl (aC rfl bE)))) c bH rfl ?_))))); intro b g
  refine sg (aF (v := .slice none 0 0) rfl (sg (aG (aB (wr (aB6 eI rfl results134 (d.at 2) (g.get 0 rfl) rfl rfl rfl ?_))))))
  have j := St.own_nil (α := Entry) g
  have n : xs = [] := eq_nil_of_length_eq_zero aE
  subst n
  exact ⟨_, _, rfl, (by simp [lK, Entry.ok, I64]), j.d1⟩
 refine wp_skip (wp_seq ?_)
 have p : ∃ q rest, xs = q :: rest := by cases xs with | nil => simp at * | cons a l => exact ⟨a, l, rfl⟩
 obtain ⟨q, rest, n⟩ := p
 have b : xs[0]? = some q := by rw [n]; rfl
 have z : q.ok := sl_ok h b
 have hdl : (xs.drop 1).length ≤ xs.length := by rw [length_drop]; omega
 have g : 0 < xs.length := (gsi_.1 b).1
 have p := eB h (i := 0) b
 obtain ⟨A, B, j, C, D, E, F, G⟩ := p
 have H := F
 obtain ⟨J, rfl, K⟩ := H
 have J : _ = [I q.prio, I q.seq, I q.run, I q.task] := J
 subst J
 have p := yU h (l := 1) aE
 obtain ⟨g, b, L, M, N⟩ := p
 refine cK 6 [(some 5, none, .of (ι := Value) [14] (fun j => [j]) (fun j => Res.row (α := Entry) 131 j (xs.drop 1) []))] [(true, .is (v)), (true, .is (.pointer (some ⟨A, B, none⟩))), (true, .is (.agg #[I q.prio, I q.seq, I q.run, I q.task])), (true, .is (v)), (true, .is g), (false, .ex (fun (j : Value) => j))] mix aD aD aD aD (rs0 := []) rfl c (Below.refl _ _) ⟨(mq_ (d.at 0)), (fun f W hst hbl hd hf => aT sl_EntryS (hd 0 9 rfl rfl) D rfl rfl brq), (fun f W hst hbl hd hf => fZ (cs := [I q.prio, I q.seq, I q.run, I q.task]) eI rfl (hd 1 10 rfl rfl) E hst.below (i := 0) rfl rfl rfl brq), (mq_ (d.at 0)), (fun f W hst hbl hd hf => N sl_EntryS (hd 3 12 rfl rfl) rfl rfl brq), ?_, trivial⟩ ?_
 ·intro f W ru oth hu hst hbl hd hf
  have s : ru = [] := hu
  subst s
  try simp only [cap_, cL] at hst
  refine (bC func174 rfl (hd 4 13 rfl rfl) ((iL W (L.below hst.below) aE).mono ?_)); rintro _ t ⟨j, rfl, b⟩; refine ⟨_, rfl, ?_⟩
  have c := St.call hst b
  exact ⟨⟨j, rfl⟩, ⟨_, ⟨_, _, rfl, ⟨j, (ce rfl rfl), rfl⟩, rfl⟩, c⟩, (hbl.trans (Below.mono b.below hbl.size))⟩
 intro g A rs_ hAL_ B C D E
 obtain ⟨_, _, rfl, ⟨j, t, rfl⟩, s⟩ := hAL_
 have s : _ = [] := s
 subst s
 have F : g 14 = j := congrArg (fun l => l.getD 0 undef) t
 try simp only [cap_, cL] at B
 have b := B.f1
 refine sgn (aK aD ((E 2 rfl).trans (d.at 2)) (D 2 11 aZ rfl) (aC rfl (aC rfl (aC rfl (aC rfl bE)))) b bH rfl ?_); intro s t
 refine sg (aF (v := j) F (sg (aG (aB (wr (aB6 eI rfl results134 ((E 2 rfl).trans (d.at 2)) (t.get 0 rfl) rfl rfl rfl ?_))))))
 have p := t.f1.shut
 obtain ⟨c, g⟩ := p
 rw [show xs.headD lK = q from by rw [n]; rfl, show (!decide (xs = [])) = true from by rw [n]; rfl]
 exact ⟨_, _, rfl, z, g.d1⟩
theorem TakeS {v : Value} {xs : List Entry} {fp : List Nat} (h : Sl w v xs fp) (hxl : xs.length ≤ 1048576) :
  Calls prog 125 #[v] w fun e w' => ∃ (v1 : Value) (fp1 : List Nat), e = .returned (.tuple #[.agg #[I (xs.headD lK).prio, I (xs.headD lK).seq, I (xs.headD lK).run, I (xs.headD lK).task], v1, .bool (!decide (xs = []))]) ∧ (xs.headD lK).ok ∧ St w w' [Res.own v1 (xs.drop 1) fp1] := by
 have hnl : ([] : List Entry).length = 0 := rfl
 refine cN func125 rfl ntmps125 aZ (wp_seq (aA (sg (aQ iU (St.start w) ?_)))); intro s t b c
 refine sg (aF (v := .slice none 0 0) rfl (sg (aG (aB (wp_seq (wp_seq (aA (rn c 3 Ag.nil.put.put.put.put [] [(7, .bool (decide ((xs.length : Int) = 0)))] [ql h, .o] aD fun f9 d => (aB (aP (d.at 7) (fun g => ?_) (fun g => ?_)))))))))))
 ·refine wp_seq (aA (sg (dD (vs := []) (cs := [I 0, I 0, I 0, I 0]) dJ aD (sg (aU (cs := []) (e := 131) dJ (bT cG _) c ?_))))); intro t b j n
  have n := n.row_empty (α := Entry)
  refine sgn (aK aD (d.at 2) rfl (aC rfl (aC rfl (aC rfl (aC rfl bE)))) n.f1 bH rfl ?_); intro g p
  refine sg (aF (v := (.slice (some ⟨t, 0, none⟩) 0 0)) rfl (sg (aG (aB (wr (aB6 eI rfl results125 (d.at 2) (p.get 0 rfl) rfl rfl rfl ?_))))))
  have q := p.f1.shut
  obtain ⟨b, z⟩ := q
  have A : xs = [] := eq_nil_of_length_eq_zero aE
  subst A
  exact ⟨_, _, rfl, (by simp [lK, Entry.ok, I64]), z.d1⟩
 refine wp_skip (wp_seq ?_)
 have q : ∃ B rest, xs = B :: rest := by cases xs with | nil => simp at * | cons a l => exact ⟨a, l, rfl⟩
 obtain ⟨B, rest, A⟩ := q
 have t : xs[0]? = some B := by rw [A]; rfl
 have C : B.ok := sl_ok h t
 have hdl : (xs.drop 1).length ≤ xs.length := by rw [length_drop]; omega
 have b : 0 < xs.length := (gsi_.1 t).1
 have q := eB h (i := 0) t
 obtain ⟨D, E, g, j, F, G, n, p⟩ := q
 have H := n
 obtain ⟨J, rfl, z⟩ := H
 have J : _ = [I B.prio, I B.seq, I B.run, I B.task] := J
 subst J
 have q := yU h (l := 1) aE
 obtain ⟨b, t, K, L, M⟩ := q
 refine cK 7 [(some 3, some 6, .of (ι := Nat) [13] (fun N => [(.slice (some ⟨N, 0, none⟩) 0 0)]) (fun N => Res.row (α := Entry) 131 (.slice (some ⟨N, 0, none⟩) 0 0) [] [])), (some 6, none, .of (ι := Value) [16] (fun O => [O]) (fun O => Res.row (α := Entry) 131 O ([] ++ (xs.drop 1)) []))] [(true, .is (v)), (true, .is (.pointer (some ⟨D, E, none⟩))), (true, .is (.agg #[I B.prio, I B.seq, I B.run, I B.task])), (false, .ex (fun (N : Nat) => (.slice (some ⟨N, 0, none⟩) 0 0))), (true, .is (v)), (true, .is b), (false, .ex (fun (O : Value) => O))] mix aD aD aD aD (rs0 := []) rfl c c.below ⟨(mq_ (d.at 0)), (fun f W hst hbl hd hf => aT sl_EntryS (hd 0 10 rfl rfl) F rfl rfl brq), (fun f W hst hbl hd hf => fZ (cs := [I B.prio, I B.seq, I B.run, I B.task]) eI rfl (hd 1 11 rfl rfl) G hst.below (i := 0) rfl rfl rfl brq), ?_, (mq_ (d.at 0)), (fun f W hst hbl hd hf => M sl_EntryS (hd 4 14 rfl rfl) rfl rfl brq), ?_, trivial⟩ ?_
 ·intro f W ru oth hu hst hbl hd hf
  have P : ru = [] := hu
  subst P
  try simp only [cap_, cL] at hst
  refine (aU (cs := []) (e := 131) dJ (bT cG _) hst ?_); intro N s t b
  have b := b.row_empty (α := Entry)
  exact ⟨⟨N, rfl⟩, ⟨_, ⟨_, _, rfl, ⟨N, (ce rfl rfl), rfl⟩, rfl⟩, b⟩, b.below⟩
 ·intro f W ru oth hu hst hbl hd hf
  obtain ⟨_, _, rfl, ⟨N, c, rfl⟩, P⟩ := hu
  have P : _ = [] := P
  subst P
  have s : f 13 = (.slice (some ⟨N, 0, none⟩) 0 0) := congrArg (fun l => l.getD 0 undef) c
  try simp only [cap_, cL] at hst
  refine (cX fE cG s (hd 5 15 rfl rfl) K hst.below hst (by unfold maxLen; omega) aE ?_); intro O t b
  exact ⟨⟨O, rfl⟩, ⟨_, ⟨_, _, rfl, ⟨O, (ce rfl rfl), rfl⟩, rfl⟩, b⟩, b.below⟩
 intro c g rs_ hAL_ j n p z
 obtain ⟨_, _, rfl, ⟨O, s, rfl⟩, P⟩ := hAL_
 have P : _ = [] := P
 subst P
 have t : c 16 = O := congrArg (fun l => l.getD 0 undef) s
 try simp only [cap_, cL] at j
 have b := j.f1
 refine sgn (aK aD ((z 2 rfl).trans (d.at 2)) (p 2 12 aZ rfl) (aC rfl (aC rfl (aC rfl (aC rfl bE)))) b bH rfl ?_); intro s c
 refine sg (aF (v := O) t (sg (aG (aB (wr (aB6 eI rfl results125 ((z 2 rfl).trans (d.at 2)) (c.get 0 rfl) rfl rfl rfl ?_))))))
 have q := c.f1.shut
 obtain ⟨g, j⟩ := q
 rw [show xs.headD lK = B from by rw [A]; rfl, show (!decide (xs = [])) = true from by rw [A]; rfl]
 exact ⟨_, _, rfl, C, j.d1⟩
theorem MergedI {v u : Value} {xs ys : List Entry} {fp gp : List Nat} (h : Sl w v xs fp) (h2 : Sl w u ys gp) (hxl : xs.length ≤ 1048576) (hyl : ys.length ≤ 1048576) :
  Calls prog 133 #[v, u] w fun e w' => ∃ (v1 : Value) (fp1 : List Nat), e = .returned v1 ∧ St w w' [Res.own v1 (fQ xs ys) fp1] := by
 have hnl : ([] : List Entry).length = 0 := rfl
 refine bY func133 rfl ntmps133 aZ (wp_seq (aA (sg (aF (v := .slice none 0 0) rfl (aB (wp_seq (aA (sg (aH (v := v) rfl (sg (bC func174 rfl rfl ((iL w (h.below (Below.refl _ _)) aE).mono ?_)))))))))))); rintro _ s ⟨t, rfl, a⟩; refine ⟨_, rfl, ?_⟩
 have b := St.call (St.start w) a
 refine sg (aF (v := t) rfl (aB (wp_seq (wp_seq (aA (rn b 6 Ag.nil.put.put.put.put.put.put [] [(15, .bool (decide (80 < ((xs.length : Int) + (ys.length : Int)))))] [ql h, ql h2, qad (xs.length : Int) (ys.length : Int), .o] aD fun f14 s => (aB (aP (s.at 15) (fun c => ?_) (fun c => ?_)))))))))
 ·refine wp_seq (aA (sg (aH (s.at 5) (sg (aF (v := t) rfl (aB (wr (bA results133 rfl ?_))))))))
  have a := b.shut
  obtain ⟨d, g⟩ := a
  have hme : fQ xs ys = xs := by unfold fQ; rw [if_pos aE]
  rw [hme]
  first | exact ⟨_, _, rfl, g⟩ | (have hz := g; simp only [nil_append] at hz; exact ⟨_, _, rfl, hz⟩)
 refine wp_skip (wp_seq (wp_seq (aA (rn b 3 s [] [(17, u), (18, I (ys.length : Int)), (19, I 0)] [ql h2] aD fun c d => (aB (wp_block ?_))))))
 have a := b.shut
 obtain ⟨j, n⟩ := a
 refine bF (fun (m : Nat) (f : Nat → Value) (W : World) => ∃ (k : Nat) (g : Value) (p : List Nat), k ≤ ys.length ∧ m = ys.length - k ∧ Ag [(5, g), (17, u), (18, I (ys.length : Int)), (19, I (k : Int))] f ∧ St w W ([Res.own (α := List Entry) g ((ys.take k).foldl kN xs) p])) (ys.length - 0) ?_ ?_
 ·exact ⟨0, t, j, Nat.zero_le _, rfl, (d.to aD), n⟩
 intro s b c q
 obtain ⟨k, g, p, z, rfl, A, B⟩ := q
 have hfl := nI (ys.take k) xs
 rw [length_take] at hfl
 refine wp_seq (aA (sg (bU (A.at 19) (A.at 18) (aB (wp_seq (aP rfl (fun t => ?_) (fun t => ?_)))))))
 ·refine wp_skip (wp_seq (wp_block (wp_seq (aA ?_))))
  have s : k < ys.length := aE
  have a := idx h2 (i := k) s
  obtain ⟨b, c, d, j, n, p, q, z⟩ := a
  refine sg (aT sl_EntryS (A.at 17) n (A.at 19) rfl (sg (cY eI rfl rfl p B.below (Shape.len q) (sg (aQ iU B ?_))))); intro t C D E
  refine sgn (aJ (cs := d) eI q rfl rfl E rfl ?_); intro s a
  refine aB (aA (sg (aH (A.at 5) (sg (aV eI rfl rfl (a.get 0 rfl) (Shape.len q) (sg (bN func192 rfl rfl rfl ((aA3 s (aM (a.get 1 rfl)) q aE).mono ?_)))))))); rintro _ t ⟨b, c, rfl, d⟩; refine ⟨_, rfl, ?_⟩
  have j := St.call a d
  refine sg (aF (v := b) rfl (aB (aA (sg (bO (A.at 19) rfl dL (sg (aH (v := I ((k : Int) + 1)) rfl (aB ?_))))))))
  exact ⟨_, ys.length - (k + 1), aE, rfl, k + 1, b, c, aE, rfl, (A.put.put.put.put.put.put.put.put.put.put.to aD), (by rw [sZ aE]; exact j.d1.d1)⟩
 refine wp_exit (wp_seq (aA (sg (aH (A.at 5) (sg (aF (v := g) rfl (aB (wr (bA results133 rfl ?_)))))))))
 have hme : fQ xs ys = (ys.take k).foldl kN xs := by unfold fQ; rw [if_neg aE, show k = ys.length by omega, take_length]
 rw [hme]
 exact ⟨_, _, rfl, B⟩
theorem MergedS {v u : Value} {xs ys : List Entry} {fp gp : List Nat} (h : Sl w v xs fp) (h2 : Sl w u ys gp) (hxl : xs.length ≤ 1048576) (hyl : ys.length ≤ 1048576) :
  Calls prog 124 #[v, u] w fun e w' => ∃ (v1 : Value) (fp1 : List Nat), e = .returned v1 ∧ St w w' [Res.own v1 (fQ xs ys) fp1] := by
 have hnl : ([] : List Entry).length = 0 := rfl
 refine bY func124 rfl ntmps124 aZ (wp_seq (aA (sg (aF (v := .slice none 0 0) rfl (aB (wp_seq (aA (sg (aU (cs := []) (e := 131) dJ (bT cG _) (St.start w) ?_))))))))); intro s t a b
 have b := b.row_empty (α := Entry)
 refine sg (aH (v := v) rfl (sg (cX fE cG rfl rfl h b.below b (by unfold maxLen; omega) aE ?_))); intro c d g
 refine sg (aF (v := c) rfl (aB (wp_seq (wp_seq (aA (rn g 6 Ag.nil.put.put.put.put.put.put.put [] [(15, .bool (decide (80 < ((xs.length : Int) + (ys.length : Int)))))] [ql h, ql h2, qad (xs.length : Int) (ys.length : Int), .o] aD fun s t => (aB (aP (t.at 15) (fun a => ?_) (fun a => ?_)))))))))
 ·refine wp_seq (aA (sg (aH (t.at 5) (sg (aF (v := c) rfl (aB (wr (bA results124 rfl ?_))))))))
  have b := g.shut
  obtain ⟨d, j⟩ := b
  have hme : fQ xs ys = xs := by unfold fQ; rw [if_pos aE]
  rw [hme]
  first | exact ⟨_, _, rfl, j⟩ | (have hz := j; simp only [nil_append] at hz; exact ⟨_, _, rfl, hz⟩)
 refine wp_skip (wp_seq (wp_seq (aA (sg (aG (aB (wp_block ?_)))))))
 have b := g.shut
 obtain ⟨s, a⟩ := b
 have d := a
 simp only [nil_append] at d
 refine bF (fun (m : Nat) (f : Nat → Value) (W : World) => ∃ (k : Nat) (j : Value) (n : List Nat), k ≤ ys.length ∧ m = ys.length - k ∧ Ag [(1, u), (5, j), (6, I (k : Int))] f ∧ St w W ([Res.own (α := List Entry) j ((ys.take k).foldl kN xs) n])) (ys.length - 0) ?_ ?_
 ·exact ⟨0, c, s, Nat.zero_le _, rfl, (t.put.to aD), d⟩
 intro a g p q
 obtain ⟨k, j, n, z, rfl, A, B⟩ := q
 have hfl := nI (ys.take k) xs
 rw [length_take] at hfl
 refine wp_seq (wp_seq (aA (rn B 4 A [] [(20, .bool (decide ((k : Int) < (ys.length : Int))))] [ql h2, .o] aD fun s t => (aB (aP (t.at 20) (fun a => ?_) (fun a => ?_))))))
 ·refine wp_skip (wp_seq (wp_block (aA ?_)))
  have c : k < ys.length := aE
  have b := idx h2 (i := k) c
  obtain ⟨d, g, n, q, z, A, C, D⟩ := b
  refine rn B 5 t [] [(23, j), (27, .agg n.toArray)] [qx z, qrw A (Shape.len C)] aD fun s a => (sg (bN func187 rfl (a.at 23) (a.at 27) ((uM p (aM (B.get 0 rfl)) C aE).mono ?_))); rintro _ c ⟨d, g, rfl, q⟩; refine ⟨_, rfl, ?_⟩
  have b := St.call B q
  refine sg (aF (v := d) rfl (aB (aA (rn b 3 a.put.put [6] [(6, I ((k : Int) + 1))] [qad (k : Int) 1] aD fun s n => (aB ?_)))))
  exact ⟨_, ys.length - (k + 1), aE, rfl, k + 1, d, g, aE, rfl, (n.to aD), (by rw [sZ aE]; exact b.d1)⟩
 refine wp_exit (wp_seq (aA (sg (aH (t.at 5) (sg (aF (v := j) rfl (aB (wr (bA results124 rfl ?_)))))))))
 have hme : fQ xs ys = (ys.take k).foldl kN xs := by unfold fQ; rw [if_neg aE, show k = ys.length by omega, take_length]
 rw [hme]
 exact ⟨_, _, rfl, B⟩
theorem aG2 {α : Type} {p : α → Bool} : ∀ {xs : List α} {k : Nat}, fW p xs = some k → (xs.take k).any p = false
 | [], k, h => by simp [fW] at h
 | x :: xs, k, h => by
  unfold fW at h
  cases hp : p x with
  | true => simp [hp] at h; subst h; rfl
  | false =>
   simp only [hp, Bool.false_eq_true, if_false] at h
   cases hq : fW p xs with
   | none => simp [hq] at h
   | some m =>
    simp [hq] at h
    subst h
    simp [hp]
    have := aG2 hq
    simpa using this
theorem aG6 {α : Type} {p : α → Bool} {xs : List α} (h : xs.any p = false) : xs.filter (fun x => !p x) = xs := by
 rw [filter_eq_self]
 intro x hx
 have := any_eq_false.1 h x hx
 simpa using this
theorem ixI_none {α : Type} {p : α → Bool} {xs : List α} (h : ixI (fW p xs) = -1) : xs.filter (fun x => !p x) = xs := by
 apply aG6
 cases hq : fW p xs with
 | some k => rw [hq] at h; simp only [ixI] at h; omega
 | none =>
  rw [Bool.eq_false_iff]
  intro ha
  have : ∀ ys : List α, ys.any p = true → fW p ys ≠ none := by
   intro ys
   induction ys with
   | nil => intro h; simp at h
   | cons y ys ih =>
    intro h
    unfold fW
    cases hp : p y with
    | true => simp
    | false =>
     have : ys.any p = true := by simpa [hp] using h
     simp only [Bool.false_eq_true, if_false]
     cases hz : fW p ys with
     | none => exact absurd hz (ih this)
     | some m => simp
  exact this xs ha hq
theorem ixI_some {α : Type} {p : α → Bool} {xs : List α} (h : ¬ ixI (fW p xs) = -1) : ∃ k, fW p xs = some k := by
 cases hq : fW p xs with
 | some k => exact ⟨k, rfl⟩
 | none => rw [hq] at h; exact absurd rfl h
section
variable {p : Entry → Bool} {xs cur : List Entry} {i j k : Nat} {e : Entry}
theorem del_init (h : fW p xs = some k) : xs.take k = (xs.take (k + 1)).filter (fun x => !p x) := by
 obtain ⟨hk, hp⟩ := qM h
 rw [take_succ_eq_append_getElem hk, filter_append, aG6 (aG2 h)]
 simp [hp]
theorem aM2 (hcd : cur.drop j = xs.drop j) (he : cur[j]? = some e) : xs[j]? = some e := by
 have s : (cur.drop j)[0]? = some e := by simpa using he
 rw [hcd] at s
 simpa using s
theorem del_skip (hct : cur.take i = (xs.take j).filter (fun x => !p x)) (hcd : cur.drop j = xs.drop j) (he : cur[j]? = some e) (hq : p e = true) : cur.take i = (xs.take (j + 1)).filter (fun x => !p x) := by
 obtain ⟨hj, s⟩ := gsi_.1 (aM2 hcd he)
 rw [take_succ_eq_append_getElem hj, filter_append, hct, s]
 simp [hq]
theorem del_keep (hij : i < j) (hct : cur.take i = (xs.take j).filter (fun x => !p x)) (hcd : cur.drop j = xs.drop j) (he : cur[j]? = some e) (hq : p e = false) : (cur.set i e).take (i + 1) = (xs.take (j + 1)).filter (fun x => !p x) := by
 obtain ⟨hj, s⟩ := gsi_.1 (aM2 hcd he)
 have hi : i < cur.length := by have := (gsi_.1 he).1; omega
 have t : (cur.set i e).take (i + 1) = cur.take i ++ [e] := by
  rw [take_succ_eq_append_getElem (by simpa using hi), getElem_set_self, take_set_of_le (Nat.le_refl _)]
 rw [t, take_succ_eq_append_getElem hj, filter_append, hct, s]
 simp [hq]
theorem aH4 (hcd : cur.drop j = xs.drop j) : cur.drop (j + 1) = xs.drop (j + 1) := by
 have := congrArg (fun l => l.drop 1) hcd
 simpa [drop_drop, Nat.add_comm] using this
theorem del_dropS (hij : i < j) (hcd : cur.drop j = xs.drop j) : (cur.set i e).drop (j + 1) = xs.drop (j + 1) := by
 rw [drop_set_of_lt aE]
 exact aH4 hcd
end

theorem aN3 {w W0 : World} {rs : List Res} {v : Value} {xs : List Entry} {fp : List Nat} {F : FuncId} {capt : List Value} {fn : Func} (hst : St w W0 (Res.own v xs fp :: rs)) (hfn : prog.funcs[F]? = some fn) (hok : ((fn.name == "runtime.NumGoroutine") || fn.body.isNone) = false) {p : Entry → Bool} (hxl : xs.length ≤ 1048576)
  (hF : ∀ (W1 : World) (cs : List Value) (e : Entry) (f1 : List Nat), St w W1 rs → Shape.C W1 cs e f1 → Calls prog F (Value.agg cs.toArray :: capt).toArray W1 fun en w' => en = .returned (.bool (p e)) ∧ St W1 w' []) :
  Calls prog 189 #[v, .func (.func F) #[] capt.toArray] W0 fun e w' => ∃ (v' : Value) (fp' : List Nat), e = .returned v' ∧ St w w' (Res.own v' (xs.filter (fun x => !p x)) fp' :: rs) := by
 refine bY func189 rfl ntmps189 aZ (wp_seq (aA (sg (aF (v := .slice none 0 0) rfl (aB (wp_seq (aA (sg (aH (v := v) rfl (sg (aH (v := .func (.func F) #[] capt.toArray) rfl (sg (bN func227 rfl rfl rfl ((aI6 W0 (aM (hst.get 0 rfl)) F capt hfn hok p (fun s i hi cs f1 hb hc => hF s cs _ f1 ((St.call hst (St.of_below hb)).dropn 1) hc)).mono ?_)))))))))))))); rintro _ a ⟨rfl, b⟩; refine ⟨_, rfl, ?_⟩
 have c := St.call hst b
 refine sg (aF (v := I (ixI (fW p xs))) rfl (aB (wp_seq (wp_seq (aA (sg (aH (v := I (ixI (fW p xs))) rfl (sg (dC rfl rfl (aB (aP rfl (fun s => ?_) (fun s => ?_))))))))))))
 ·refine wp_seq (aA (sg (aH (v := v) rfl (sg (aF (v := v) rfl (aB (wr (bA results189 rfl ?_))))))))
  have hff := ixI_none s
  rw [hff]
  exact ⟨_, _, rfl, c⟩
 refine wp_skip (wp_seq (wp_seq ?_))
 have d := ixI_some s
 obtain ⟨a, b⟩ := d
 have g := (qM b).1
 refine aA (rn c 3 (Ag.up (t := 5) (v := I (a : Int)) ((rfl : _ = I (ixI (fW p xs))).trans (congrArg I (by rw [b]; rfl))) Ag.nil.put.put.put.put.put.put.put.put.put) [] [(6, I ((a : Int) + 1))] [qad (a : Int) 1] aD fun s n => (aB (wp_block (bF (fun (m : Nat) (f : Nat → Value) (W : World) => ∃ (j : Nat) (i : Nat) (cur : List Entry) (q : List Nat), j ≤ xs.length ∧ i < j ∧ cur.length = xs.length ∧ cur.take i = (xs.take j).filter (fun x => !p x) ∧ cur.drop j = xs.drop j ∧ m = xs.length - j ∧ Ag [(0, v), (1, .func (.func F) #[] capt.toArray), (5, I (i : Int)), (6, I (j : Int))] f ∧ St w W (Res.own (α := List Entry) v cur q :: rs)) (xs.length - (a + 1)) ?_ ?_))))
 ·exact ⟨(a + 1), a, xs, fp, aE, aE, rfl, (del_init b), rfl, rfl, (Ag.cons (n.at 0) (Ag.cons (n.at 1) (Ag.cons (n.at 5) (Ag.cons (Eq.trans (show _ = I ((a : Int) + 1) from (n.at 6)) (congrArg I aE)) Ag.nil)))), c⟩
 intro s g z A
 obtain ⟨j, i, cur, q, hj, hij, hcl, hct, hcd, rfl, B, D⟩ := A
 refine wp_seq (wp_seq (aA (rn D 4 B [] [(19, .bool (decide ((j : Int) < (cur.length : Int))))] [ql (aM (D.get 0 rfl)), .o] aD fun a E => (aB (aP (E.at 19) (fun s => ?_) (fun s => ?_))))))
 ·refine wp_skip (wp_seq (wp_block (wp_seq (aA (sg (aH (E.at 0) (sg (aH (E.at 6) ?_))))))))
  have d := dW (xs := cur) (i := j) aE
  obtain ⟨e, he⟩ := d
  have a : j < cur.length := (gsi_.1 he).1
  have d := eB (aM (D.get 0 rfl)) (i := j) he
  obtain ⟨s, b, c, g, n, z, A, B⟩ := d
  refine sg (aT sl_EntryS rfl n rfl rfl (sg (cY eI rfl rfl z (Below.refl _ _) (Shape.len A) (sg (aQ iU D ?_))))); intro a G H J
  refine sgn (aJ (cs := c) eI A rfl rfl J rfl ?_); intro s b
  refine aB (wp_seq (aA (sg (aH (E.at 1) (sg (aV eI rfl rfl (b.get 0 rfl) (Shape.len A) (sg (tU (first := []) hfn hok rfl (pJ (v := .agg c.toArray) rfl nZ) ((hF s _ e _ (b.dropn 2) A).mono ?_))))))))); rintro _ a ⟨rfl, g⟩; refine ⟨_, rfl, ?_⟩
  have K := St.call b g
  refine sg (sC rfl (aB (bZ rfl (fun L => ?_) (fun L => ?_))))
  ·refine wp_seq (aA (rn K 3 E.put.put.put.put.put.put.put.put.put [] [(30, v), (31, I (i : Int)), (32, .agg c.toArray)] [qw 0 rfl (Shape.len A)] aD fun s M => ?_))
   have N := A
   obtain ⟨O, rfl, P⟩ := N
   have O : _ = [I e.prio, I e.seq, I e.run, I e.task] := O
   subst O
   have d := dW (xs := cur) (i := i) aE
   obtain ⟨ei, hei⟩ := d
   have d := St.lendx (α := Entry) aZ K.f1 (x := ei) hei
   obtain ⟨s, a, b, c, post51, g, n, R, z, S⟩ := d
   obtain ⟨T, A, B⟩ := z; have T : _ = [I ei.prio, I ei.seq, I ei.run, I ei.task] := T; subst T
   refine sg (aT sl_EntryS (M.at 30) R (M.at 31) rfl (sgn (gE (i := 0) (cs := [I e.prio, I e.seq, I e.run, I e.task]) aD rfl (M.at 32) (aC rfl (aC rfl (aC rfl (aC rfl bE)))) S.d1 rfl bH rfl ?_))); intro s a
   refine aB (aA (rn a 3 M.put [5] [(5, I ((i : Int) + 1))] [qad (i : Int) 1] aD fun b c => (aB (aA (rn a 3 c [6] [(6, I ((j : Int) + 1))] [qad (j : Int) 1] aD fun g n => (aB ?_))))))
   have z := a.cs0 (cs := [I e.prio, I e.seq, I e.run, I e.task]) (x := e) ⟨rfl, rfl, P⟩
   have d := St.give (α := Entry) z.f2.f1.f2
   obtain ⟨s, b⟩ := d
   exact ⟨_, xs.length - (j + 1), aE, rfl, j + 1, i + 1, (cur.set i e), s, aE, aE, (by rw [length_set]; exact hcl), (del_keep hij hct hcd he (aY L)), (del_dropS hij hcd), rfl, (n.to aD), b.d1⟩
  refine wp_skip (aA (rn K 3 E.put.put.put.put.put.put.put.put.put [6] [(6, I ((j : Int) + 1))] [qad (j : Int) 1] aD fun a c => (aB ?_)))
  exact ⟨_, xs.length - (j + 1), aE, rfl, j + 1, i, cur, q, aE, aE, hcl, (del_skip hct hcd he (aX L)), (aH4 hcd), rfl, (c.to aD), K.f1.d1⟩
 refine wp_exit (wp_seq ?_)
 have hje : j = xs.length := by omega
 have d := St.ownOpen D aE
 obtain ⟨bD, oD, cD, CD, eD, hvD, hcD, hmD, hlD, hED, U⟩ := d
 subst hvD
 refine aA (sg (aH (E.at 0) (sg (aH (E.at 5) (sg (nF (l := i) sl_EntryS rfl rfl aE aE aE ?_))))))
 refine sgn (stp_clearb (zs := [I 0, I 0, I 0, I 0]) underlying124 aD rfl (by intro v hv; simp only [mem_cons, not_mem_nil, or_false] at hv; rcases hv with rfl | rfl | rfl | rfl <;> rfl) rfl aE U (by show oD + i * 4 + (cur.length - i) * 4 ≤ CD.length; omega) ?_); intro ZD s hZD a
 refine aB (wp_seq (aA (sg (aH (E.at 0) (sg (aH (E.at 5) (sg (rI (h := i) sl_EntryS rfl rfl aE aE aE (sg (aF (v := .slice (some ⟨bD, oD, none⟩) i cD) rfl (aB (wr (bA results189 rfl ?_)))))))))))))
 have d := St.ownShut (off := oD) (cap := cD) (m := i) a (splice_front (i := i) aE hED hlD hZD) (by rw [length_take]; omega) aE hmD (by rw [fO]; omega)
 obtain ⟨fpz, stz⟩ := d
 rw [hct, hje, take_length] at stz
 exact ⟨_, fpz, rfl, stz⟩
theorem SweptC {y : Yard} (hc : Shape.C w cs y fp) {bt : Nat} {tt : TypeId} (hB : (Res.bx bt cs tt).holds w) {e : Entry} (hd_ : Shape.C w ds e gp) (hw : y.wt ≤ 1048576) :
  Calls prog 190 #[.agg ds.toArray, pt_ bt] w fun en w' => en = .returned (.bool (!fresh y e)) ∧ St w w' [] := by
 refine bY func190 rfl ntmps190 aZ (wp_seq (aA (sg (aI (cs := ds) rfl (St.start w) ?_)))); intro t a c d
 refine sg (aG (aB (wp_seq (aA (rc d 5 Ag.nil.put.put.put.put [3] [(3, .bool (!(fresh y e)))] [qrw (bQ hB) (Shape.len hc), qw 0 rfl (Shape.len hd_), qc func165 rfl (fun W s b => aQ1 W (aR hc s.below) hd_ aE), .o] aD fun f9 t a c g => (aB (wr (bA results190 (a.at 3) ?_))))))))
 exact ⟨rfl, c.bare⟩
theorem aP5 {y : Yard} (hc : Shape.C w cs y fp) (sh : Int) (hw : y.wt ≤ 1048576) :
  Calls prog 130 #[.agg cs.toArray, I sh] w (rO_ (bW y sh) w) := by
 have hslw : y.shelf.length ≤ y.wt := by unfold Yard.wt wtL; omega
 refine bY func130 rfl ntmps130 aZ (wp_seq (aA (sg (aI (cs := cs) rfl (St.start w) ?_)))); intro t a c d
 refine sg (aQ cI d ?_); intro g j n q
 refine aB (wp_seq (aA (sg (aV aL rfl rfl (q.get 1 rfl) (Shape.len hc) (sg (bC func108 rfl rfl ((iQ j (aR hc q.below) aE).mono ?_))))))); rintro _ a ⟨z, c, rfl, A⟩; refine ⟨_, rfl, ?_⟩
 have d := St.call q A
 refine sg (aQ cI d ?_); intro B n D E
 refine sgn (aJ (cs := z) aL (bB (E.get 1 rfl) rfl) rfl rfl E rfl ?_); intro a F
 refine aB (wp_seq (wp_seq (aA ?_)))
 have G := hc
 obtain ⟨H, J, c, j, rfl, q, d, A, rfl⟩ := G
 refine rc F 7 Ag.nil.put.put.put.put.put.put.put [] [(14, .bool (!(inB sh 0 ((y.shelf.length : Int) - 1))))] [qb 3 rfl 2, ql d, qsb (y.shelf.length : Int) 1, qc func47 rfl (fun W s b => cF W sh 0 ((y.shelf.length : Int) - 1)), .o] aD fun a n K D c => (aB (bZ (K.at 14) (fun L => ?_) (fun L => ?_)))
 ·have j := cU (aY L)
  refine wp_seq (aA (sg (aV aL rfl (K.at 5) (D.get 0 rfl) (Shape.len (bB (D.get 1 rfl) rfl)) (sgn (aJ (cs := z) aL (bB (D.f2.get 2 rfl) rfl) (K.at 4) rfl D.f2 rfl ?_))))); intro a c
  refine aB (wr (eT aL rfl results130 (K.at 4) (c.get 0 rfl) (Shape.len (bB (c.get 2 rfl) rfl)) ?_))
  have hfe : bW y sh = y := by unfold bW; rw [(aY L)]; rfl
  rw [hfe]
  exact ⟨_, _, rfl, c.f2.d1.d1.d1⟩
 have j := inB_iff'.1 (aX L)
 refine wp_skip (wp_seq ?_)
 have hsl : (sh).toNat < y.shelf.length := by omega
 have hgd : y.shelf[(sh).toNat]? = some (y.shelf.getD (sh).toNat []) := getD_some hsl
 have hsy := qH y (sh).toNat hsl
 have hge : (y.shelf.getD (sh).toNat []) = y.shelf[(sh).toNat] := by rw [getD_eq_getElem?_getD, getElem?_eq_getElem hsl]; rfl
 rw [← hge] at hsy
 have M := eM D.f1
 obtain ⟨N, O, a, P, R, c, S⟩ := M
 subst R
 have M := St.lendx (α := List Entry) aZ S (x := (y.shelf.getD (sh).toNat [])) hgd
 obtain ⟨T, U, X, d, post47, Y, Z, a0, j, n⟩ := M
 have M := n.f1.uncs1
 obtain ⟨b0, c0, e0⟩ := M; subst c0
 refine cK 10 [(none, some 9, .is (Res.own (α := List Entry) b0 (y.shelf.getD (sh).toNat []) Y)), (some 9, none, .of (ι := Value × List Nat) [25] (fun ⟨f0, g0⟩ => [f0]) (fun ⟨f0, g0⟩ => Res.own (α := List Entry) f0 ((y.shelf.getD (sh).toNat []).filter (fun x => !(fun x => !fresh y x) x)) g0))] [(true, .is (.pointer (some ⟨B, 0 + 2, none⟩))), (true, .is (N)), (true, .is (I sh)), (true, .is (.pointer (some ⟨B, 0 + 2, none⟩))), (true, .is (N)), (true, .is (I sh)), (true, .is (.pointer (some ⟨T, X.length, none⟩))), (true, .is (b0)), (true, .is (.func (.func 190) #[] #[pt_ t])), (false, .ex (fun (f0 : Value) => f0))] mix aD aD aD aD (rs0 := [Res.own (α := List Entry) b0 (y.shelf.getD (sh).toNat []) Y]) ⟨_, _, rfl, rfl, rfl⟩ e0 e0.below ⟨(fq_ eC (K.at 5)), (fun f W hst hbl hd hf => aW eF rfl (hd 0 16 rfl rfl) (hst.get 3 rfl) (i := 2) rfl rfl brq), (mq_ (K.at 1)), (fq_ eC (K.at 5)), (fun f W hst hbl hd hf => aW eF rfl (hd 3 19 rfl rfl) (hst.get 3 rfl) (i := 2) rfl rfl brq), (mq_ (K.at 1)), (fun f W hst hbl hd hf => aT eO (hd 4 20 rfl rfl) a0 (hd 5 21 rfl rfl) aE brq), (fun f W hst hbl hd hf => gR jD rfl (hd 6 22 rfl rfl) (hst.get 0 rfl) (i := 0) rfl rfl brq), (fun f W hst hbl hd hf => gQ nZ (pJ (v := pt_ t) ((hf 2 rfl).trans (K.at 2)) nZ) brq), ?_, trivial⟩ ?_
 ·intro f W ru oth hu hst hbl hd hf
  obtain ⟨_, _, rfl, rfl, a⟩ := hu
  have a : _ = [] := a
  subst a
  try simp only [cap_, cL] at hst
  refine (bN func189 rfl (hd 7 23 rfl rfl) (hd 8 24 rfl rfl) ((aN3 (capt := [pt_ t]) hst func190 rfl (p := (fun x => !fresh y x)) aE (fun c cs_ e_ f_ hs_ hc_ => SweptC c (aR hc hs_.below) (hs_.get 5 rfl) hc_ hw)).mono ?_)); rintro _ d ⟨f0, g0, rfl, g⟩; refine ⟨_, rfl, ?_⟩
  exact ⟨⟨f0, rfl⟩, ⟨_, ⟨_, _, rfl, ⟨(f0, g0), (ce rfl rfl), rfl⟩, rfl⟩, g⟩, g.below⟩
 intro t j rs_ hAL_ c n q z
 obtain ⟨_, _, rfl, ⟨⟨f0, g0⟩, A, rfl⟩, a⟩ := hAL_
 have a : _ = [] := a
 subst a
 have d : t 25 = f0 := congrArg (fun l => l.getD 0 undef) A
 try simp only [cap_, cL] at c
 refine sg (aT eO (q 1 17 aZ rfl) a0 (q 2 18 aZ rfl) aE ?_)
 have g := c.f1
 refine sgn (bS (i := 0) (v := f0) aD rfl d (Sl.cells (aM (g.get 1 rfl))) (Sl.one (aM (g.get 1 rfl))) g rfl bH rfl ?_); intro t a
 refine aB (wp_seq ?_)
 have j := a.f1.cs1
 have M := St.give (α := List Entry) j.f2.f1.f2
 obtain ⟨c, n⟩ := M
 have hnn : (y.shelf.getD (sh).toNat []).filter (fun x => !(fun x => !fresh y x) x) = (y.shelf.getD (sh).toNat []).filter (fresh y) := by congr 1; funext x; simp
 rw [hnn] at n
 refine aA (sg (aS (cs := [I y.now, I y.seq, N, O]) aL rfl ((z 5 rfl).trans (K.at 5)) (n.get 2 rfl) rfl rfl ?_))
 have t := n.f3
 refine sgn (aK aD ((z 4 rfl).trans (K.at 4)) rfl (aC rfl (aC rfl (aC (Sl.one (aM (t.get 1 rfl))) (aC (Sl.one (aM (t.get 2 rfl))) bE)))) t bH rfl ?_); intro a c
 refine aB (wr (eT aL rfl results130 ((z 4 rfl).trans (K.at 4)) (c.get 0 rfl) rfl ?_))
 have hfe : bW y sh = jI y (sh).toNat ((y.shelf.getD (sh).toNat []).filter (fresh y)) := by unfold bW; rw [(aX L)]; rfl
 have t := cH (x := (jI y (sh).toNat ((y.shelf.getD (sh).toNat []).filter (fresh y)))) c.f2.f2 (by assumption)
 rw [hfe]
 exact ⟨_, _, rfl, t.d1.d1.d1⟩
theorem aP4 {y : Yard} (hc : Shape.C w cs y fp) (sh : Int) (hw : y.wt ≤ 1048576) :
  Calls prog 121 #[.agg cs.toArray, I sh] w (rO_ (bW y sh) w) := by
 have hslw : y.shelf.length ≤ y.wt := by unfold Yard.wt wtL; omega
 refine bY func121 rfl ntmps121 aZ (wp_seq (aA (sg (aI (cs := cs) rfl (St.start w) ?_)))); intro t a c d
 refine sg (aQ cI d ?_); intro g j n p
 refine aB (wp_seq (aA (sg (aV aL rfl rfl (p.get 1 rfl) (Shape.len hc) (sg (bC func71 rfl rfl ((hX j (aR hc p.below) aE).mono ?_))))))); rintro _ a ⟨q, z, rfl, c⟩; refine ⟨_, rfl, ?_⟩
 have d := St.call p c
 refine sg (aQ cI d ?_); intro A n B D
 refine sgn (aJ (cs := q) aL (bB (D.get 1 rfl) rfl) rfl rfl D rfl ?_); intro a E
 refine aB (wp_seq (wp_seq (aA ?_)))
 have F := hc
 obtain ⟨j, c, p, G, rfl, H, d, J, rfl⟩ := F
 refine rc E 7 Ag.nil.put.put.put.put.put.put.put [] [(16, .bool (!(inB sh 0 ((y.shelf.length : Int) - 1))))] [qb 3 rfl 2, ql d, qsb (y.shelf.length : Int) 1, qc func43 rfl (fun W s b => cR W sh 0 ((y.shelf.length : Int) - 1)), .o] aD fun a n B D p => (aB (bZ (B.at 16) (fun K => ?_) (fun K => ?_)))
 ·have E := cU (aY K)
  refine wp_seq (aA (sg (aV aL rfl (B.at 5) (D.get 0 rfl) (Shape.len (bB (D.get 1 rfl) rfl)) (sgn (aJ (cs := q) aL (bB (D.f2.get 2 rfl) rfl) (B.at 4) rfl D.f2 rfl ?_))))); intro a n
  refine aB (wr (eT aL rfl results121 (B.at 4) (n.get 0 rfl) (Shape.len (bB (n.get 2 rfl) rfl)) ?_))
  have hfe : bW y sh = y := by unfold bW; rw [(aY K)]; rfl
  rw [hfe]
  exact ⟨_, _, rfl, n.f2.d1.d1.d1⟩
 have E := inB_iff'.1 (aX K)
 refine wp_skip (wp_seq ?_)
 have hsl : (sh).toNat < y.shelf.length := by omega
 have hgd : y.shelf[(sh).toNat]? = some (y.shelf.getD (sh).toNat []) := getD_some hsl
 have hsy := qH y (sh).toNat hsl
 have hge : (y.shelf.getD (sh).toNat []) = y.shelf[(sh).toNat] := by rw [getD_eq_getElem?_getD, getElem?_eq_getElem hsl]; rfl
 rw [← hge] at hsy
 refine aA (sg (aU (cs := []) (e := 131) dJ (bT cG _) D ?_)); intro a n p E
 have E := E.row_empty (α := Entry)
 refine sg (aF (v := (.slice (some ⟨a, 0, none⟩) 0 0)) rfl (aB (wp_seq (wp_seq (aA (sg (aG (aB (wp_block (bF (fun (m : Nat) (f : Nat → Value) (W : World) => ∃ (k : Nat) (L : Value), k ≤ (y.shelf.getD (sh).toNat []).length ∧ m = (y.shelf.getD (sh).toNat []).length - k ∧ Ag [(1, I sh), (2, pt_ t), (4, pt_ g), (5, pt_ A), (6, L), (7, I (k : Int))] f ∧ St w W ([Res.row (α := Entry) 131 L (((y.shelf.getD (sh).toNat []).take k).filter (fresh y)) [], Res.bx A q 34, Res.own (α := Yard) (.agg q.toArray) y z, Res.bx g [I 0, I 0, .slice none 0 0, .slice none 0 0] 34, Res.bx t [I y.now, I y.seq, j, c] 34])) ((y.shelf.getD (sh).toNat []).length - 0) ?_ ?_))))))))))
 ·exact ⟨0, (.slice (some ⟨a, 0, none⟩) 0 0), Nat.zero_le _, rfl, (B.put.put.put.to aD), E⟩
 intro n p D F
 obtain ⟨k, L, A, rfl, M, N⟩ := F
 have hfl := length_filter_le (fresh y) ((y.shelf.getD (sh).toNat []).take k)
 have htl := length_take_le k (y.shelf.getD (sh).toNat [])
 refine wp_seq (wp_seq (aA ?_))
 have t : (sh).toNat < y.shelf.length := (gsi_.1 hgd).1
 have O := eB d (i := (sh).toNat) hgd
 obtain ⟨a, c, g, j, P, R, n, p⟩ := O
 have S := n
 obtain ⟨q, rfl, z⟩ := S
 refine rn N 8 M [] [(26, .bool (decide ((k : Int) < ((y.shelf.getD (sh).toNat []).length : Int))))] [qb 4 rfl 2, qxe P (e := sh) aE, qr R 0, ql z, .o] aD fun t T => (aB (aP (T.at 26) (fun a => ?_) (fun a => ?_)))
 ·refine wp_skip (wp_seq (wp_block (wp_seq ?_)))
  have O := dW (xs := (y.shelf.getD (sh).toNat [])) (i := k) aE
  obtain ⟨e, he⟩ := O
  have hkl : k < (y.shelf.getD (sh).toNat []).length := (gsi_.1 he).1
  have hek : (y.shelf.getD (sh).toNat [])[k] = e := (gsi_.1 he).2
  have t : k < (y.shelf.getD (sh).toNat []).length := (gsi_.1 he).1
  have O := eB z (i := k) he
  obtain ⟨a, c, d, g, U, X, Y, j⟩ := O
  have Z := Y
  obtain ⟨a0, rfl, n⟩ := Z
  have a0 : _ = [I e.prio, I e.seq, I e.run, I e.task] := a0
  subst a0
  refine rd N T [] [(38, .bool (fresh y e))] [qb 4 rfl 0, qb 4 rfl 2, qxe P (e := sh) aE, qr R 0, qx U, qr X 0, qc func158 rfl (fun W s b => aQ0 W (aR hc s.below) Y aE)] aD aD fun t a c d g => (bZ (c.at 38) (fun j => ?_) (fun j => ?_))
  ·refine aA (rn d 9 c [] [(39, L), (47, .agg #[I e.prio, I e.seq, I e.run, I e.task])] [qb 4 rfl 2, qxe P (e := sh) aE, qr R 0, qx U, qr X 0] aD fun t a => ?_)
   have hoke : e.ok := (Y).2.2
   refine sg (aU (cs := [I e.prio, I e.seq, I e.run, I e.task]) (e := 131) (bR (a.at 47) dJ) (bG cG _ _ rfl rfl aZ) d ?_); intro t g n p
   refine sg (cA (ys := [(⟨e.prio, e.seq, e.run, e.task⟩ : Entry)]) cG (a.at 39) rfl rfl p.f1 (Elems.one1 (show Shape.C _ [I e.prio, I e.seq, I e.run, I e.task] e [] from ⟨rfl, rfl, hoke⟩)) (by unfold maxLen; omega) aE ?_); intro t g n
   refine sg (aF (v := t) rfl (aB (aA (rn n 3 a.put.put.put [7] [(7, I ((k : Int) + 1))] [qad (k : Int) 1] aD fun p q => (aB ?_)))))
   exact ⟨_, (y.shelf.getD (sh).toNat []).length - (k + 1), aE, rfl, k + 1, t, aE, rfl, (q.to aD), (by rw [aM0 aE (by have hz := j; rw [← hek] at hz; exact hz)]; exact (by rw [hek]; exact n))⟩
  refine wp_skip (aA (rn d 3 c [7] [(7, I ((k : Int) + 1))] [qad (k : Int) 1] aD fun a g => (aB ?_)))
  exact ⟨_, (y.shelf.getD (sh).toNat []).length - (k + 1), aE, rfl, k + 1, L, aE, rfl, (g.to aD), (by rw [zK aE (by have hz := j; rw [← hek] at hz; exact hz)]; exact d)⟩
 refine wp_exit (wp_seq ?_)
 have hke : k = (y.shelf.getD (sh).toNat []).length := by omega
 rw [hke, take_length] at N
 have t := N.f2
 have O := eM t
 obtain ⟨b0, c0, a, c, e0, g, f0⟩ := O
 subst e0
 have O := St.lendx (α := List Entry) aZ f0 (x := (y.shelf.getD (sh).toNat [])) hgd
 obtain ⟨g0, d, h0, j, post94, n, p, j0, q, z⟩ := O
 have O := z.f1.uncs1
 obtain ⟨A, k0, l0⟩ := O; subst k0
 have O := l0.f4.shut
 obtain ⟨t, a⟩ := O
 refine aA (rn a 5 T [] [(53, L), (54, .pointer (some ⟨g0, h0.length, none⟩))] [qb 5 rfl 2, qxe j0 (e := sh) aE] aD fun c d => (sgn (bS (i := 0) (v := L) aD (d.at 54) (d.at 53) (Sl.cells (aM (a.f2.get 1 rfl))) (Sl.one (aM (a.f2.get 1 rfl))) a.f2 rfl bH rfl ?_))); intro t g
 refine aB (wp_seq (aA (sg (aS (cs := [I y.now, I y.seq, b0, c0]) aL rfl (d.at 5) (g.get 5 rfl) rfl rfl (sgn (aK aD (d.at 4) rfl (aC rfl (aC rfl (aC (yG j0) (aC (Sl.one (aM (g.f6.get 5 rfl))) bE)))) g.f6 bH rfl ?_)))))); intro t a
 refine aB (wr (eT aL rfl results121 (d.at 4) (a.get 0 rfl) rfl ?_))
 have c := a.f2.cs1
 have O := St.give (α := List Entry) c.f4.f1.f3
 obtain ⟨j, n⟩ := O
 have hfe : bW y sh = jI y (sh).toNat ((y.shelf.getD (sh).toNat []).filter (fresh y)) := by unfold bW; rw [(aX K)]; rfl
 have t := cH (x := (jI y (sh).toNat ((y.shelf.getD (sh).toNat []).filter (fresh y)))) n.f3.f1 (by assumption)
 rw [hfe]
 exact ⟨_, _, rfl, t.d1.d1.d1.d1⟩
theorem PA_eq {v : Value} {k i b o b' o' : Nat} (h : PA v k i b o) (h' : PA v k i b' o') : (Value.pointer (some ⟨b, o, none⟩)) = .pointer (some ⟨b', o', none⟩) := by
 obtain ⟨off, len, cap, rfl, _, rfl⟩ := h
 obtain ⟨off', len', cap', e, _, rfl⟩ := h'
 cases e; rfl
section
variable {P : Program} {n : Nat} {f : Nat → Value} {W w0 : World} {α β : Type} [Shape α] [Agg α] [Shape β] [Agg β]
theorem mW {fn : Func} {s u : Tmp} {t t2 : TypeId} {R : Ending → World → Prop} {b b2 : Nat} {C C2 : List Value} {t' t2' : TypeId} (hT : TyOk P t α) (ha : Agg.agg α = true) (hT2 : TyOk P t2 β) (ha2 : Agg.agg β = true) (hr : fn.results = #[.cell s t, .cell u t2]) (hv : ev n f (.tmp s) = pt_ b) (hB : (Res.bx b C t').holds W) (hl : C.length = Shape.size α) (hv2 : ev n f (.tmp u) = pt_ b2) (hB2 : (Res.bx b2 C2 t2').holds W) (hl2 : C2.length = Shape.size β) (h : R (.returned (.tuple #[.agg C.toArray, .agg C2.toArray])) W) : bodyPost P fn R .ret (act n f) W := by
 refine ⟨rfl, .tuple #[.agg C.toArray, .agg C2.toArray], ?_, h⟩
 have a := hT.load (bQ hB) hl
 have c := hT2.load (bQ hB2) hl2
 simp only [val, ha, ha2, cond_true, Instr.loadAt, Instr.sureAddr, Sem.run_bind, Sem.run_pure, Result.andThen_ok] at a c
 have e : (act n f).tmps.getD s undef = pt_ b := by rw [jR]; exact hv
 have d : (act n f).tmps.getD u undef = pt_ b2 := by rw [jR]; exact hv2
 rw [Array.getD_eq_getD_getElem?] at e d
 simp [results, hr, e, d, asAddr, a, c]
end
theorem sA {α : Type} (f : α → Nat) (m : Nat) : ∀ xs : List α, (∀ x ∈ xs, f x ≤ m) → (xs.map f).sum ≤ xs.length * m
 | [], _ => by simp
 | x :: xs, h => by
  have h1 := h x (by simp)
  have h2 := sA f m xs (fun z hz => h z (by simp [hz]))
  simp only [map_cons, sum_cons, length_cons, Nat.succ_mul]
  omega
theorem aA8 {y : Yard} {s : List (List Entry)} {rr : List Run} {a b : Int} (h4 : s.length = 4) (he : ∀ j, j < 4 → (s.getD j []).length ≤ 80) (h8 : rr.length ≤ 8) (hr : ∀ r ∈ rr, r.wt ≤ 42) : (⟨a, b, s, rr⟩ : Yard).wt ≤ 100000 := by
 have hs := sA (fun z : List Entry => z.length) 80 s (fun z hz => by
  obtain ⟨j, hj, rfl⟩ := getElem_of_mem hz
  have := he j aE
  rw [getD_eq_getElem?_getD, getElem?_eq_getElem hj] at this
  simpa using this)
 have hq := sA (fun z : Run => z.wt) 42 rr hr
 rw [h4] at hs
 have : rr.length * 42 ≤ 8 * 42 := Nat.mul_le_mul_right _ h8
 unfold Yard.wt wtL
 simp only
 omega
theorem sK {y : Yard} (h : YardIs y) : ∀ r ∈ y.runs, r.wt ≤ 42 := by
 intro r hr
 obtain ⟨j, hj, rfl⟩ := getElem_of_mem hr
 exact ((h.run j _ (getElem?_eq_getElem hj)).1).wt
theorem PI.wt {y out : Yard} {home : Nat} (hy : YardIs y) (h : PI y out home) : out.wt ≤ 100000 :=
 aA8 (y := y) h.len h.each (by rw [h.runs]; exact hy.runs) (by rw [h.runs]; exact sK hy)
theorem PI.wtS {y out : Yard} {home : Nat} (hy : YardIs y) (h : PI y out home) {l : List Entry} (hl : l.length ≤ 80) : (jI out home l).wt ≤ 100000 :=
 aA8 (y := y) (by show (out.shelf.set _ _).length = 4; rw [length_set]; exact h.len) (mK h.each hl h.len) (by rw [h.runs]; exact hy.runs) (by rw [h.runs]; exact sK hy)
theorem PI.ok {y out : Yard} {home : Nat} (hy : YardIs y) (h : PI y out home) : out.ok := by
 have s := hy.now; have t := hy.seq
 unfold Yard.ok I64
 rw [h.now, h.seq]; omega
theorem PI.sw {y out : Yard} {home : Nat} (h : PI y out home) {o : Int} (ho : 0 ≤ o ∧ o ≤ 3) : (bW out o).shelf.length = 4 ∧ ∀ s, s < 4 → ((bW out o).shelf.getD s []).length ≤ 80 := by
 rw [tR ho h.len]
 exact ⟨by show (out.shelf.set _ _).length = 4; rw [length_set]; exact h.len, mK h.each (Nat.le_trans (length_filter_le _ _) (h.each _ aE)) h.len⟩
theorem RunIs.tries {r : Run} (h : RunIs r) {i : Nat} {t : Task} (ht : r.tasks[i]? = some t) : (0 ≤ t.try_ ∧ t.try_ ≤ 5) ∧ 1 ≤ r.plan.wait ∧ r.plan.wait ≤ 20 := by
 obtain ⟨hi, rfl⟩ := gsi_.1 ht
 have s := (h.task i hi hi).2.2.1
 have a := (lI h.plan).1
 unfold dE at a
 omega
theorem wK {y y' : Yard} (h : y'.runs = y.runs) (id : Int) : eQ y' id = eQ y id := by unfold eQ; rw [h]
theorem dne {p : Prop} [Decidable p] (h : (!(!decide p)) = true) : p := by simpa using h
theorem dnf {p : Prop} [Decidable p] (h : (!(!decide p)) = false) : ¬ p := by simpa using h
theorem aM3 {xs : List Entry} (h : ¬ xs = []) : ∃ e rest, xs = e :: rest := by cases xs with | nil => exact absurd rfl h | cons e r => exact ⟨e, r, rfl⟩
theorem gt_ne {xs : List Entry} (h : (0 : Int) < (xs.length : Int)) : ¬ xs = [] := fun e => by rw [e] at h; simp at h
theorem ne_nil0 {xs : List Entry} (h : ¬ (xs.length : Int) = 0) : ¬ xs = [] := fun e => h (by rw [e]; rfl)
theorem nil0 {xs : List Entry} (h : (xs.length : Int) = 0) : xs = [] := eq_nil_of_length_eq_zero aE
theorem ng_nil {xs : List Entry} (h : ¬ (0 : Int) < (xs.length : Int)) : xs = [] := eq_nil_of_length_eq_zero aE

theorem PollI {y : Yard} (hc : Shape.C w cs y fp) (worker draw : Int) (hw : y.wt ≤ 1048576) (hdw : I64 draw) :
  Calls prog 69 #[.agg cs.toArray, I worker, I draw] w fun e w' => ∃ (cs' : List Value) (fp' : List Nat), e = .returned (.tuple #[.agg cs'.toArray, .agg #[I (eW y worker draw).2.code, I (eW y worker draw).2.run, I (eW y worker draw).2.task, I (eW y worker draw).2.try_]]) ∧ (eW y worker draw).2.ok ∧ St w w' [Res.own (.agg cs'.toArray) (eW y worker draw).1 fp'] := by
 have a := hdw
 unfold I64 at a
 refine iS func69 rfl ntmps69 aZ (wp_seq (aA (sg (aI (cs := cs) rfl (St.start w) ?_)))); intro c d g j
 refine sg (aQ cI j ?_); intro n p q z
 refine sg (aQ kA z ?_); intro A a B D
 refine aB (wp_seq (wp_block (wp_seq (aA (rc D 4 Ag.nil.put.put.put.put.put.put [] [(19, .bool (!(dB y)))] [qw 2 rfl (Shape.len hc), qc func46 rfl (fun W s b => nE W (aR hc s.below) aE), .o] aD fun d g j p q => (aB (bZ (j.at 19) (fun E => ?_) (fun E => ?_))))))))
 ·refine wp_seq (aA (sg (aV aL rfl (j.at 3) (p.get 2 rfl) (Shape.len hc) (sg (bC func108 rfl rfl ((iQ g (aR hc p.below) aE).mono ?_)))))); rintro _ a ⟨d, z, rfl, B⟩; refine ⟨_, rfl, ?_⟩
  have q := St.call p B
  refine sg (dD (vs := [(0, I 8)]) (cs := [I 8, I 0, I 0, I 0]) (bR (v := I 8) rfl dJ) aD (sgn (aJ (cs := d) aL (bB (q.f2.get 1 rfl) rfl) (j.at 6) rfl q.f2 rfl ?_))); intro a g
  refine sgn (aK aD (j.at 7) rfl (aC rfl (aC rfl (aC rfl (aC rfl bE)))) g.f2 bH rfl ?_); intro d z
  refine aB (wr (mW aL rfl fV rfl results69 (j.at 6) (z.get 1 rfl) (Shape.len (bB (z.get 2 rfl) rfl)) (j.at 7) (z.get 0 rfl) rfl ?_))
  have hfe : eW y worker draw = (y, ⟨8, 0, 0, 0⟩) := by unfold eW; rw [if_pos (by rw [(aY E)]; decide)]
  rw [hfe]
  exact ⟨_, _, rfl, (by simp only [Reply.ok, I64]; omega), z.f2.d1.d1.d1⟩
 refine wp_seq (aA (rc p 4 j [] [(26, .bool (!(inB worker 0 99)))] [qc func47 rfl (fun W s b => cF W worker 0 99), .o] aD fun a d g q B => (aB (bZ (g.at 26) (fun F => ?_) (fun F => ?_)))))
 ·have D := cU (aY F)
  refine wp_seq (aA (sg (aV aL rfl (g.at 3) (q.get 2 rfl) (Shape.len hc) (sg (bC func108 rfl rfl ((iQ d (aR hc q.below) aE).mono ?_)))))); rintro _ a ⟨j, p, rfl, z⟩; refine ⟨_, rfl, ?_⟩
  have B := St.call q z
  refine sg (dD (vs := [(0, I 5)]) (cs := [I 5, I 0, I 0, I 0]) (bR (v := I 5) rfl dJ) aD (sgn (aJ (cs := j) aL (bB (B.f2.get 1 rfl) rfl) (g.at 6) rfl B.f2 rfl ?_))); intro a p
  refine sgn (aK aD (g.at 7) rfl (aC rfl (aC rfl (aC rfl (aC rfl bE)))) p.f2 bH rfl ?_); intro j z
  refine aB (wr (mW aL rfl fV rfl results69 (g.at 6) (z.get 1 rfl) (Shape.len (bB (z.get 2 rfl) rfl)) (g.at 7) (z.get 0 rfl) rfl ?_))
  have hfe : eW y worker draw = (y, ⟨5, 0, 0, 0⟩) := by unfold eW; rw [if_neg (by rw [(aX E)]; decide), if_pos (by rw [(aY F)]; decide)]
  rw [hfe]
  exact ⟨_, _, rfl, (by simp only [Reply.ok, I64]; omega), z.f2.d1.d1.d1⟩
 have D := inB_iff'.1 (aX F)
 refine wp_skip (wp_seq ?_)
 have hY := iE (aX E)
 have hwk := inB_iff'.1 (aX F)
 have hHN : (((worker % 4).toNat : Nat) : Int) = (worker % 4) := by omega
 have G : (worker % 4).toNat < 4 := by omega
 have hvr : ∀ o ∈ (cT (worker % 4) draw), 0 ≤ o ∧ o ≤ 3 ∧ o ≠ (((worker % 4).toNat : Nat) : Int) := by rw [hHN]; exact oZ aE
 have hvl : (cT (worker % 4) draw).length = 3 := rfl
 refine aA (rn q 3 g [] [(8, I (worker % 4))] [qq worker 4] aD fun a j => (aB (wp_seq (aA (sg (aV aL rfl (j.at 3) (q.get 2 rfl) (Shape.len hc) (sg (aH (j.at 8) (sg (bN func130 rfl rfl rfl ((aP5 d (aR hc q.below) (worker % 4) aE).mono ?_))))))))))); rintro _ g ⟨p, z, rfl, B⟩; refine ⟨_, rfl, ?_⟩
 have a := St.call q B
 refine sg (aQ cI a ?_); intro H D J K
 refine sgn (aJ (cs := p) aL (bB (K.get 1 rfl) rfl) rfl rfl K rfl ?_); intro d g
 refine aB (wp_seq (wp_seq (aA (sg (aH (j.at 8) (sg (aH (j.at 2) (sg (bN func131 rfl rfl rfl ((VictimsI d (worker % 4) draw aE dL).mono ?_)))))))))); rintro _ a ⟨L, M, rfl, q⟩; refine ⟨_, rfl, ?_⟩
 have B := St.call g q
 refine sg (eY eG rfl (aM (B.get 0 rfl)) (sg (aH (v := I 0) rfl (aB (vH (fun (f : Nat → Value) (W : World) => ∃ (N : List Value) (O : List Nat), Ag [(6, pt_ n), (7, pt_ A), (8, I (worker % 4)), (9, pt_ H)] f ∧ St w W ([Res.own (α := List Int) L (cT (worker % 4) draw) M, Res.bx H N 34, Res.own (α := Yard) (.agg N.toArray) (fJ (worker % 4).toNat (bW y (worker % 4)) (cT (worker % 4) draw)) O, Res.bx A [I 0, I 0, I 0, I 0] 75, Res.bx n [I 0, I 0, .slice none 0 0, .slice none 0 0] 34, Res.bx c cs 34])) ?_ (fun a P R => ?_))))))
 ·refine wp_block (bF (fun (m : Nat) (f : Nat → Value) (W : World) => ∃ (k : Nat) (S : List Value) (T : List Nat), k ≤ 3 ∧ m = 3 - k ∧ Ag [(6, pt_ n), (7, pt_ A), (8, I (worker % 4)), (9, pt_ H), (40, L), (41, I ((cT (worker % 4) draw).length : Int)), (42, I (k : Int))] f ∧ St w W ([Res.own (α := List Int) L (cT (worker % 4) draw) M, Res.bx H S 34, Res.own (α := Yard) (.agg S.toArray) (fJ (worker % 4).toNat (bW y (worker % 4)) ((cT (worker % 4) draw).take k)) T, Res.bx A [I 0, I 0, I 0, I 0] 75, Res.bx n [I 0, I 0, .slice none 0 0, .slice none 0 0] 34, Res.bx c cs 34])) (3 - 0) ?_ ?_)
  ·exact ⟨0, p, z, Nat.zero_le _, rfl, (j.put.put.put.put.put.put.put.put.put.to aD), B⟩
  intro a d U g
  obtain ⟨k, S, T, q, rfl, X, Y⟩ := g
  refine wp_seq ?_
  have hPI := PI.take hY (home := (worker % 4).toNat) G (l := (cT (worker % 4) draw)) hvr k
  rw [hHN] at hPI
  obtain ⟨out, hout⟩ : ∃ o, o = fJ (worker % 4).toNat (bW y (worker % 4)) ((cT (worker % 4) draw).take k) := ⟨_, rfl⟩
  rw [← hout] at hPI Y
  have hwo := hPI.wt hY
  have hoo := hPI.ok hY
  have hol := hPI.len
  have hgh : out.shelf[(worker % 4).toNat]? = some (out.shelf.getD (worker % 4).toNat []) := getD_some aE
  have Z := hPI.each (worker % 4).toNat aE
  have hnow := hPI.now
  have hynow := hY.now
  refine aA (sg (bU (X.at 42) (X.at 41) (aB (wp_seq (aP rfl (fun a => ?_) (fun a => ?_))))))
  ·refine wp_skip (wp_seq (wp_block (wp_seq ?_)))
   have a0 := dW (xs := (cT (worker % 4) draw)) (i := k) aE
   obtain ⟨o, hko⟩ := a0
   have hor := hvr o (mem_of_getElem? hko)
   rw [hHN] at hor
   refine aA ?_
   have d : k < (cT (worker % 4) draw).length := (gsi_.1 hko).1
   have a0 := eB (aM (Y.get 0 rfl)) (i := k) hko
   obtain ⟨a, g, j, p, b0, c0, q, z⟩ := a0
   have e0 := q
   obtain ⟨rfl, rfl, B⟩ := e0
   refine rn Y 3 X.put [] [(11, I o)] [qx b0, qn c0 0] aD fun d f0 => (aB (wp_seq (wp_seq (aA ?_))))
   have D := Y.f2
   have a0 := eM D
   obtain ⟨g0, h0, j0, k0, l0, m0, n0⟩ := a0
   subst l0
   have o0 : (worker % 4).toNat < out.shelf.length := (gsi_.1 hgh).1
   have a0 := eB (aM (n0.get 0 rfl)) (i := (worker % 4).toNat) hgh
   obtain ⟨a, d, g, j, p0, q0, p, q⟩ := a0
   have s0 := p
   obtain ⟨z, rfl, B⟩ := s0
   refine rn n0 7 f0 [] [(52, .bool (decide (0 < ((out.shelf.getD (worker % 4).toNat []).length : Int))))] [qb 3 rfl 2, qxe p0 (e := worker % 4) aE, qn q0 0, ql B, .o] aD fun D t0 => (aB (aP (t0.at 52) (fun a => ?_) (fun a => ?_)))
   ·refine wp_exit ?_
    have d := cH (x := out) n0.f1.f1 hoo
    have hfin : out = fJ (worker % 4).toNat (bW y (worker % 4)) (cT (worker % 4) draw) := by rw [hout]; exact (wP (by rw [← hout]; exact gt_ne a)).symm
    exact ⟨_, rfl, [I out.now, I out.seq, g0, h0], _, (t0.to aD), (by rw [← hfin]; exact d.f5.f5.f5.f3.f5.f5)⟩
   refine wp_skip (wp_seq ?_)
   have hemp := ng_nil a
   have hsw := hPI.sw (o := o) aE
   refine aA (sg (aS (cs := [I out.now, I out.seq, g0, h0]) aL rfl (t0.at 9) (n0.get 3 rfl) rfl rfl (sg (aH (t0.at 11) (sg (bN func130 rfl rfl rfl ((aP5 U (show Shape.C _ [I out.now, I out.seq, g0, h0] out _ from ⟨_, _, _, _, rfl, m0, (aM (n0.get 0 rfl)), (aM (n0.get 1 rfl)), rfl⟩) o aE).mono ?_))))))); rintro _ a ⟨d, g, rfl, j⟩; refine ⟨_, rfl, ?_⟩
   have p := St.call n0 j
   refine sgn (aJ (cs := d) aL (bB (p.f4.get 1 rfl) rfl) (t0.at 9) rfl p.f4 rfl ?_); intro v0 q
   refine aB (wp_seq ?_)
   have z := hsw.1
   have hgo : (bW out o).shelf[(o).toNat]? = some ((bW out o).shelf.getD (o).toNat []) := getD_some aE
   have hgs : (bW out o).shelf[(worker % 4).toNat]? = some ((bW out o).shelf.getD (worker % 4).toNat []) := getD_some aE
   have a := hsw.2 (o).toNat aE
   have d := hsw.2 (worker % 4).toNat aE
   have g : (((bW out o).shelf.getD (o).toNat []).take (jA ((bW out o).shelf.getD (o).toNat []))).length ≤ 80 := by rw [length_take]; omega
   refine aA ?_
   have a0 := eM q.f1
   obtain ⟨w0, x0, j, y0, z0, p, A0⟩ := a0
   subst z0
   have a : (o).toNat < (bW out o).shelf.length := (gsi_.1 hgo).1
   have a0 := eB (aM (A0.get 0 rfl)) (i := (o).toNat) hgo
   obtain ⟨d, g, z, B, B0, C0, D, J⟩ := a0
   have D0 := D
   obtain ⟨q, rfl, j⟩ := D0
   refine rn A0 5 t0.put.put.put [] [(61, q)] [qb 2 rfl 2, qxe B0 (e := o) aE, qn C0 0] aD fun a p => (sg (bC func132 rfl (p.at 61) ((HalfOfI v0 j aE).mono ?_))); rintro _ E0 ⟨F0, G0, H0, J0, rfl, d⟩; refine ⟨_, rfl, ?_⟩
   have g := St.call A0 d
   refine rn g 5 p.put [] [(12, F0), (13, H0)] [] aD fun q K0 => (aB (wp_seq ?_))
   have a0 := St.lendx (α := List Entry) aZ g.f2 (x := ((bW out o).shelf.getD (worker % 4).toNat [])) hgs
   obtain ⟨L0, M0, N0, a, post165, O0, P0, Q0, j, z⟩ := a0
   have a0 := z.f1.uncs1
   obtain ⟨R0, S0, T0⟩ := a0; subst S0
   refine cK 10 [(some 9, none, .of (ι := Value × List Nat) [74] (fun ⟨a, d⟩ => [a]) (fun ⟨a, d⟩ => Res.own (α := List Entry) a (fQ ((bW out o).shelf.getD (worker % 4).toNat []) (((bW out o).shelf.getD (o).toNat []).take (jA ((bW out o).shelf.getD (o).toNat [])))) d))] [(true, .is (.pointer (some ⟨H, 0 + 2, none⟩))), (true, .is (w0)), (true, .is (I (worker % 4))), (true, .is (.pointer (some ⟨H, 0 + 2, none⟩))), (true, .is (w0)), (true, .is (I (worker % 4))), (true, .is (.pointer (some ⟨L0, N0.length, none⟩))), (true, .is (R0)), (true, .is (F0)), (false, .ex (fun (a : Value) => a))] mix aD aD aD aD (rs0 := []) rfl T0 (Below.refl _ _) ⟨(fq_ eC (K0.at 9)), (fun f W hst hbl hd hf => aW eF rfl (hd 0 65 rfl rfl) (hst.get 6 rfl) (i := 2) rfl rfl brq), (mq_ (K0.at 8)), (fq_ eC (K0.at 9)), (fun f W hst hbl hd hf => aW eF rfl (hd 3 68 rfl rfl) (hst.get 6 rfl) (i := 2) rfl rfl brq), (mq_ (K0.at 8)), (fun f W hst hbl hd hf => aT eO (hd 4 69 rfl rfl) Q0 (hd 5 70 rfl rfl) aE brq), (fun f W hst hbl hd hf => gR jD rfl (hd 6 71 rfl rfl) (hst.get 1 rfl) (i := 0) rfl rfl brq), (mq_ (K0.at 12)), ?_, trivial⟩ ?_
   ·intro f W ru oth hu hst hbl hd hf
    have U0 : ru = [] := hu
    subst U0
    try simp only [cap_, cL] at hst
    refine (bN func133 rfl (hd 7 72 rfl rfl) (hd 8 73 rfl rfl) ((MergedI W (aM (hst.get 0 rfl)) (aM (hst.get 3 rfl)) aE aE).mono ?_)); rintro _ g ⟨a, d, rfl, j⟩; refine ⟨_, rfl, ?_⟩
    have p := St.call hst j
    exact ⟨⟨a, rfl⟩, ⟨_, ⟨_, _, rfl, ⟨(a, d), (ce rfl rfl), rfl⟩, rfl⟩, p⟩, (hbl.trans (Below.mono j.below hbl.size))⟩
   intro V0 q rs_ hAL_ z B D W0
   obtain ⟨_, _, rfl, ⟨⟨a, d⟩, g, rfl⟩, U0⟩ := hAL_
   have U0 : _ = [] := U0
   subst U0
   have J : V0 74 = a := congrArg (fun l => l.getD 0 undef) g
   try simp only [cap_, cL] at z
   refine sg (aT eO (D 1 66 aZ rfl) Q0 (D 2 67 aZ rfl) aE ?_)
   have d := z.f2
   refine sgn (bS (i := 0) (v := a) aD rfl J (Sl.cells (aM (d.get 1 rfl))) (Sl.one (aM (d.get 1 rfl))) d rfl bH rfl ?_); intro g j
   refine aB ?_
   have p := j.f1.cs1
   have a0 := St.give (α := List Entry) p.f3.f1.f2
   obtain ⟨q, z⟩ := a0
   have B : ((bW out o).shelf.set (worker % 4).toNat (fQ ((bW out o).shelf.getD (worker % 4).toNat []) (((bW out o).shelf.getD (o).toNat []).take (jA ((bW out o).shelf.getD (o).toNat [])))))[(o).toNat]? = some ((bW out o).shelf.getD (o).toNat []) := by rw [getElem?_set_ne aE]; exact hgo
   have a0 := St.lendx (α := List Entry) aZ z (x := ((bW out o).shelf.getD (o).toNat [])) B
   obtain ⟨X0, a, Y0, d, post198, g, j, Z0, p, q⟩ := a0
   have a0 := q.f1.uncs1
   obtain ⟨D, a1, b1⟩ := a0; subst a1
   refine aA (rn b1 5 (Ag.cons (show V0 6 = pt_ n from ((W0 6 rfl).trans (K0.at 6))) (Ag.cons (show V0 7 = pt_ A from ((W0 7 rfl).trans (K0.at 7))) (Ag.cons (show V0 8 = I (worker % 4) from ((W0 8 rfl).trans (K0.at 8))) (Ag.cons (show V0 9 = pt_ H from ((W0 9 rfl).trans (K0.at 9))) (Ag.cons (show V0 11 = I o from ((W0 11 rfl).trans (K0.at 11))) (Ag.cons (show V0 13 = H0 from ((W0 13 rfl).trans (K0.at 13))) (Ag.cons (show V0 40 = L from ((W0 40 rfl).trans (K0.at 40))) (Ag.cons (show V0 41 = I ((cT (worker % 4) draw).length : Int) from ((W0 41 rfl).trans (K0.at 41))) (Ag.cons (show V0 42 = I (k : Int) from ((W0 42 rfl).trans (K0.at 42))) Ag.nil))))))))).put [] [(79, H0), (80, .pointer (some ⟨X0, Y0.length, none⟩))] [qb 7 rfl 2, qxe Z0 (e := o) aE] aD fun a d => (sgn (bS (i := 0) (v := H0) aD (d.at 80) (d.at 79) (Sl.cells (aM (b1.f1.get 5 rfl))) (Sl.one (aM (b1.f1.get 5 rfl))) b1.f1 rfl bH rfl ?_))); intro g j
   refine aB (aA (sg (bO (d.at 42) rfl dL (sg (aH (v := I ((k : Int) + 1)) rfl (aB ?_))))))
   have a := j.f5.cs1
   have a0 := St.give (α := List Entry) a.f3.f1.f2
   obtain ⟨p, q⟩ := a0
   have z := cH (x := (aF1 (bW out o) (worker % 4).toNat (o).toNat)) q.f4.f1 (by assumption)
   exact ⟨_, 3 - (k + 1), aE, rfl, k + 1, [I (bW out o).now, I (bW out o).seq, w0, x0], _, aE, rfl, (d.put.put.to aD), (by rw [yV hko (by rw [← hout]; exact hemp), ← hout]; exact z.f10.f10.f10.f3.f7.f10.d6.d6.d6.d6.d6)⟩
  refine wp_exit ?_
  have hfin : out = fJ (worker % 4).toNat (bW y (worker % 4)) (cT (worker % 4) draw) := by rw [hout]; exact wQ aE
  exact ⟨_, rfl, S, T, (X.put.to aD), (by rw [← hfin]; exact Y)⟩
 obtain ⟨N, O, c1, e1⟩ := R
 refine wp_seq ?_
 have hPI := PI.all hY G hvr (PI.start hY G)
 rw [hHN] at hPI
 obtain ⟨out, hout⟩ : ∃ o, o = fJ (worker % 4).toNat (bW y (worker % 4)) (cT (worker % 4) draw) := ⟨_, rfl⟩
 rw [← hout] at hPI e1
 have hwo := hPI.wt hY
 have hoo := hPI.ok hY
 have hol := hPI.len
 have hgh : out.shelf[(worker % 4).toNat]? = some (out.shelf.getD (worker % 4).toNat []) := getD_some aE
 have Z := hPI.each (worker % 4).toNat aE
 have hnow := hPI.now
 have hynow := hY.now
 refine aA ?_
 have a := e1.f2
 have a0 := eM a
 obtain ⟨g1, h1, d, g, j1, j, k1⟩ := a0
 subst j1
 have o0 : (worker % 4).toNat < out.shelf.length := (gsi_.1 hgh).1
 have a0 := eB (aM (k1.get 0 rfl)) (i := (worker % 4).toNat) hgh
 obtain ⟨p, q, z, B, l1, m1, D, G⟩ := a0
 have n1 := D
 obtain ⟨a, rfl, J⟩ := n1
 refine rn k1 5 c1 [] [(87, a)] [qb 3 rfl 2, qxe l1 (e := worker % 4) aE, qn m1 0] aD fun d g => (sg (bC func134 rfl (g.at 87) ((TakeI P J aE).mono ?_))); rintro _ j ⟨o1, p, rfl, hokf249, q⟩; refine ⟨_, rfl, ?_⟩
 have z := St.call k1 q
 refine rn z 4 g.put [] [(89, .agg #[I ((out.shelf.getD (worker % 4).toNat []).headD lK).prio, I ((out.shelf.getD (worker % 4).toNat []).headD lK).seq, I ((out.shelf.getD (worker % 4).toNat []).headD lK).run, I ((out.shelf.getD (worker % 4).toNat []).headD lK).task]), (90, o1), (91, .bool (!decide ((out.shelf.getD (worker % 4).toNat []) = [])))] [] aD fun a p1 => (sg (aQ iU z ?_)); intro q1 d j p
 refine sgn (aK aD rfl (p1.at 89) (aC rfl (aC rfl (aC rfl (aC rfl bE)))) p bH rfl ?_); intro a d
 refine sg (aF (p1.at 90) (sg (aF (p1.at 91) (aB (wp_seq (wp_seq (aA (sg (aH (v := .bool (!decide ((out.shelf.getD (worker % 4).toNat []) = []))) rfl (sg (sC rfl (aB (bZ rfl (fun g => ?_) (fun g => ?_))))))))))))))
 ·refine wp_seq ?_
  have a : (out.shelf.getD (worker % 4).toNat []) = [] := dne g
  refine aA (sg (aS (cs := [I out.now, I out.seq, g1, h1]) aL rfl (p1.at 9) (d.get 5 rfl) rfl rfl (sg (dD (vs := [(0, I 9)]) (cs := [I 9, I 0, I 0, I 0]) (bR (v := I 9) rfl dJ) aD ?_))))
  have j := d.f7
  refine sgn (aK aD (p1.at 6) rfl (aC rfl (aC rfl (aC (Sl.one (aM (j.get 3 rfl))) (aC (Sl.one (aM (j.get 4 rfl))) bE)))) j bH rfl ?_); intro p q
  refine sgn (aK aD (p1.at 7) rfl (aC rfl (aC rfl (aC rfl (aC rfl bE)))) q.f7 bH rfl ?_); intro z B
  refine aB (wr (mW aL rfl fV rfl results69 (p1.at 6) (B.get 1 rfl) rfl (p1.at 7) (B.get 0 rfl) rfl ?_))
  have j := cH (x := out) B.f5.f5 hoo
  have hfe : eW y worker draw = (out, ⟨9, 0, 0, 0⟩) := by unfold eW; rw [if_neg (by rw [(aX E)]; decide), if_neg (by rw [(aX F)]; decide), ← hout]; exact xJ a
  rw [hfe]
  exact ⟨_, _, rfl, (by simp only [Reply.ok, I64]; omega), j.d1.d1.d1.d1.d1.d1.d1⟩
 refine wp_skip (wp_seq ?_)
 have a0 := aM3 (dnf g)
 obtain ⟨e, rest, hxe⟩ := a0
 have hhd : (out.shelf.getD (worker % 4).toNat []).headD lK = e := by rw [hxe]; rfl
 have hdr : (out.shelf.getD (worker % 4).toNat []).drop 1 = rest := by rw [hxe]; rfl
 have hrl : rest.length ≤ 80 := by have h_ := Z; rw [hxe] at h_; simp only [length_cons] at h_; omega
 have heo : e.ok := by rw [← hhd]; exact hokf249
 have a0 := aG3 (hPI.fresh e (by rw [hxe]; exact mem_cons_self))
 obtain ⟨k, r, t, hix, hry, a, hti, g⟩ := a0
 have hixo : eQ out e.run = some k := (wK hPI.runs _).trans hix
 have hro : out.runs[k]? = some r := by rw [hPI.runs]; exact hry
 have hRI := (hY.run k r hry).1
 have htr := hRI.tries hti
 have hwy := hPI.wtS hY hrl
 rw [hhd, hdr] at d
 have a := d.f2
 have a0 := St.lendx (α := List Entry) aZ a (x := (out.shelf.getD (worker % 4).toNat [])) hgh
 obtain ⟨r1, g, s1, j, post284, t1, p, u1, q, z⟩ := a0
 have a0 := z.f1.uncs1
 obtain ⟨v1, x1, y1⟩ := a0; subst x1
 refine aA (rn y1 5 p1.put.put.put.put.put [] [(99, o1), (100, .pointer (some ⟨r1, s1.length, none⟩))] [qb 7 rfl 2, qxe u1 (e := worker % 4) aE] aD fun a d => (sgn (bS (i := 0) (v := o1) aD (d.at 100) (d.at 99) (Sl.cells (aM (y1.f1.get 4 rfl))) (Sl.one (aM (y1.f1.get 4 rfl))) y1.f1 rfl bH rfl ?_))); intro g j
 refine aB (wp_seq ?_)
 have p := j.f4.cs1
 have a0 := St.give (α := List Entry) p.f3.f1.f2
 obtain ⟨z1, a⟩ := a0
 have q : k < out.runs.length := (gsi_.1 hro).1
 have a0 := eB (aM (a.get 3 rfl)) (i := k) hro
 obtain ⟨z, B, D, G, A1, g, J, K⟩ := a0
 refine rd a d [] [(17, .pointer (some ⟨z, B, none⟩))] [qb 5 rfl 3, qb 5 rfl 0, qb 2 rfl 2, qc func98 rfl (fun W s b => nU W (show Shape.C _ [I out.now, I out.seq, g1, h1] (⟨out.now, out.seq, (out.shelf).set (worker % 4).toNat rest, out.runs⟩ : Yard) _ from ⟨_, _, _, _, rfl, fF, (aM (s.get 0 rfl)), (aM (s.get 3 rfl)), rfl⟩) e.run (show Yard.wt _ ≤ _ from Nat.le_trans hwy aE) hixo), qx A1] aD aD fun a d B1 g j => (wp_seq ?_)
 have p := g.f3
 have a0 := St.lendx (α := Run) aZ p (x := r) hro
 obtain ⟨C1, D1, E1, q, post310, z, F1, G1, B, D⟩ := a0
 have G := D.f1.uncs rfl
 have a0 := iZ G
 obtain ⟨H1, J1, K1, a, L1, d, M1⟩ := a0
 subst L1
 have a0 := St.lendx (α := Task) aZ M1.f1 (x := t) hti
 obtain ⟨N1, O1, P1, g, post322, j, Q1, S1, p, T1⟩ := a0
 obtain ⟨U1, q, V1⟩ := p; have U1 : _ = [I t.state, I t.need, I t.try_, I t.until_] := U1; subst U1
 refine rd T1.d1 (Ag.up (t := 17) (v := .pointer (some ⟨C1, E1.length, none⟩)) ((B1.at 17).trans (PA_eq A1 G1)) B1) [] [(18, .pointer (some ⟨N1, P1.length, none⟩))] [qp 3 rfl 7, qb 7 rfl 3, qxe S1 (e := e.task) aE] aD aD fun a d g j p => (wp_seq (aA (rn j 3 g [] [(117, .pointer (some ⟨N1, P1.length, none⟩))] [] aD fun q z => (sgn (bS (i := 0) (v := I 3) aD (z.at 117) rfl rfl rfl j rfl bH rfl ?_))))); intro a d
 refine aB (wp_seq (aA (lw z [(6, pt_ n), (7, pt_ A), (9, pt_ H), (14, pt_ q1), (17, .pointer (some ⟨C1, E1.length, none⟩)), (18, .pointer (some ⟨N1, P1.length, none⟩))] aD fun g => (rn d 7 g [] [(122, I (t.try_ + 1)), (124, .pointer (some ⟨N1, P1.length + 2, none⟩))] [qp 0 rfl 2, qad t.try_ 1] aD fun a j => (sgn (bS (i := 2) (v := I (t.try_ + 1)) aD (j.at 124) (j.at 122) rfl rfl d rfl bH rfl ?_)))))); intro p g
 refine aB (wp_seq (rk 11 g j [] [(133, I (out.now + r.plan.wait)), (135, .pointer (some ⟨N1, P1.length + 3, none⟩))] [qb 9 rfl 0, qp 3 rfl 3, qad out.now r.plan.wait] aD aD fun a q W1 z B => (sgn (bS (i := 3) (v := I (out.now + r.plan.wait)) aD (W1.at 135) (W1.at 133) rfl rfl z rfl bH rfl ?_)))); intro d g
 refine aB (wp_seq (cK 11 [(none, some 10, .is (Res.bx n [I 0, I 0, .slice none 0 0, .slice none 0 0] 34)), (some 10, none, .is (Res.bx n [I out.now, I out.seq, g1, h1] 34))] [(true, .is (.agg #[I out.now, I out.seq, g1, h1])), (true, .is (.pointer (some ⟨q1, 0 + 2, none⟩))), (true, .is (I e.run)), (true, .is (.pointer (some ⟨q1, 0 + 3, none⟩))), (true, .is (I e.task)), (true, .is (.pointer (some ⟨N1, P1.length, none⟩))), (true, .is (.pointer (some ⟨N1, P1.length, none⟩))), (true, .is (.pointer (some ⟨N1, P1.length + 2, none⟩))), (true, .is (I (t.try_ + 1))), (true, .is (.agg #[I 0, I e.run, I e.task, I (t.try_ + 1)])), (false, .is undef)] mix aD aD aD aD (rs0 := [Res.bx n [I 0, I 0, .slice none 0 0, .slice none 0 0] 34]) ⟨_, _, rfl, rfl, rfl⟩ g.f11 g.f11.below ⟨(fun f W hst hbl hd hf => aS (cs := [I out.now, I out.seq, g1, h1]) aL rfl ((hf 9 rfl).trans (W1.at 9)) (hst.get 9 rfl) rfl rfl brq), (fq_ xS (W1.at 14)), (fun f W hst hbl hd hf => aW dA rfl (hd 1 137 rfl rfl) (hst.get 7 rfl) (i := 2) rfl rfl brq), (fq_ oJ (W1.at 14)), (fun f W hst hbl hd hf => aW dA rfl (hd 3 139 rfl rfl) (hst.get 7 rfl) (i := 3) rfl rfl brq), (mq_ (W1.at 18)), (fun f W hst hbl hd hf => gP (hd 5 141 rfl rfl) brq), (fun f W hst hbl hd hf => aN qQ (hd 6 142 rfl rfl) brq), (fun f W hst hbl hd hf => gR dA rfl (hd 7 143 rfl rfl) (hst.get 0 rfl) (i := 2) rfl rfl brq), (fun f W hst hbl hd hf => dD (vs := [(1, I e.run), (2, I e.task), (3, I (t.try_ + 1))]) (cs := [I 0, I e.run, I e.task, I (t.try_ + 1)]) (bR (v := I e.run) (hd 2 138 rfl rfl) (bR (v := I e.task) (hd 4 140 rfl rfl) (bR (v := I (t.try_ + 1)) (hd 8 144 rfl rfl) dJ))) aD brq), ?_, trivial⟩ ?_))
 ·intro f W ru oth hu hst hbl hd hf
  obtain ⟨_, _, rfl, rfl, U0⟩ := hu
  have U0 : _ = [] := U0
  subst U0
  try simp only [cap_, cL] at hst
  refine (aK aD ((hf 6 rfl).trans (W1.at 6)) (hd 0 136 rfl rfl) (aC rfl (aC rfl (aC (Sl.one (aM (hst.get 6 rfl))) (aC (yG G1) bE)))) hst bH rfl ?_); intro a c
  exact ⟨rfl, ⟨_, ⟨_, _, rfl, rfl, rfl⟩, c⟩, c.below⟩
 intro d g rs_ hAL_ j n p q
 obtain ⟨_, _, rfl, rfl, U0⟩ := hAL_
 have U0 : _ = [] := U0
 subst U0
 try simp only [cap_, cL] at j
 have a := j.f11
 refine sgn (aK aD ((q 7 rfl).trans (W1.at 7)) (p 9 145 aZ rfl) (aC rfl (aC rfl (aC rfl (aC rfl bE)))) a bH rfl ?_); intro c d
 refine aB (wr (mW aL rfl fV rfl results69 ((q 6 rfl).trans (W1.at 6)) (d.get 1 rfl) rfl ((q 7 rfl).trans (W1.at 7)) (d.get 0 rfl) rfl ?_))
 have g := d.cs0 (cs := [I 3, I t.need, I (t.try_ + 1), I (out.now + r.plan.wait)]) (x := (⟨3, t.need, t.try_ + 1, out.now + r.plan.wait⟩ : Task)) ⟨rfl, rfl, (by have h_ := V1; simp only [Task.ok, I64] at h_ ⊢; omega)⟩
 have a0 := St.give (α := Task) g.f4.f1.f4
 obtain ⟨a, c⟩ := a0
 have j := eP (x := (iX r (e.task).toNat t out.now)) c.f3 (show Run.ok _ from hRI.small.1)
 have d := j.cs rfl
 have a0 := St.give (α := Run) d.f4.f1.f4
 obtain ⟨n, p⟩ := a0
 have q := cH (x := (⟨out.now, out.seq, out.shelf.set (worker % 4).toNat rest, out.runs.set k (iX r (e.task).toNat t out.now)⟩ : Yard)) p.f3 (show Yard.ok _ from hoo)
 try dsimp only at q
 have a := q.d1
 have c := a.d1.d1.d1.d1.d1.d1
 have hfe : eW y worker draw = ((⟨out.now, out.seq, out.shelf.set (worker % 4).toNat rest, out.runs.set k (iX r (e.task).toNat t out.now)⟩ : Yard), ⟨0, e.run, e.task, t.try_ + 1⟩) := by unfold eW; rw [if_neg (by rw [(aX E)]; decide), if_neg (by rw [(aX F)]; decide), ← hout]; exact zF hxe hixo hro hti
 rw [hfe]
 exact ⟨_, _, rfl, (by have a := heo; simp only [Entry.ok, Reply.ok, I64] at *; omega), c⟩
theorem StartedS {r : Run} (hc : Shape.C w cs r fp) (task now : Int) {t : Task} (h0 : 0 ≤ task) (hti : r.tasks[(task).toNat]? = some t) (hnw : 0 ≤ now ∧ now ≤ 999999980) (hRI : RunIs r) :
  Calls prog 126 #[.agg cs.toArray, I task, I now] w (rO_ (iX r (task).toNat t now) w) := by
 have htr := hRI.tries hti
 have hrw := hRI.wt
 have hok_t : t.ok := by have h_ := hc; obtain ⟨s, a, f1, f2, _, _, _, b, _⟩ := h_; have c := eB b hti; obtain ⟨_, _, _, _, _, _, d, _⟩ := c; exact d.2.2
 refine iS func126 rfl ntmps126 aZ (wp_seq (aA (sg (aI (cs := cs) rfl (St.start w) ?_)))); intro s a g j
 refine sg (aQ fN j ?_); intro n b p q
 refine aB (wp_seq (aA (sg (aV bP rfl rfl (q.get 1 rfl) (Shape.len hc) (sg (bC func136 rfl rfl ((pW b (aR hc q.below) aE).mono ?_))))))); rintro _ s ⟨a, d, rfl, g⟩; refine ⟨_, rfl, ?_⟩
 have j := St.call q g
 refine sg (aQ fN j ?_); intro z p A B
 refine sgn (aJ (cs := a) bP (bB (B.get 1 rfl) rfl) rfl rfl B rfl ?_); intro s b
 refine aB (wp_seq (aA ?_))
 have c := iZ b.f1
 obtain ⟨D, E, d, g, F, q, G⟩ := c
 subst F
 have j : (task).toNat < r.tasks.length := (gsi_.1 hti).1
 have c := eB (aM (G.get 1 rfl)) (i := (task).toNat) hti
 obtain ⟨a, p, s, A, B, H, J, K⟩ := c
 refine rn G 5 Ag.nil.put.put.put.put.put.put.put.put [] [(15, .agg s.toArray)] [qb 2 rfl 7, qxe B (e := task) aE, qtw H (Below.refl _ _) (Shape.len J)] aD fun b L => (sg (aQ iD G ?_)); intro M d g a
 refine sgn (aJ (cs := s) iI J rfl (L.at 15) a rfl ?_); intro j N
 refine aB (wp_seq (aA (sg (aN jE rfl ?_))))
 have O := J
 obtain ⟨P, rfl, b⟩ := O
 have P : _ = [I t.state, I t.need, I t.try_, I t.until_] := P
 subst P
 refine sgn (aO (v := I 3) aD rfl rfl rfl rfl N bH rfl ?_); intro s a
 refine aB (wp_seq (aA (rn a 4 L.put.put [] [(19, I (t.try_ + 1)), (20, .pointer (some ⟨M, 2, none⟩))] [qb 0 rfl 2, qad t.try_ 1] aD fun b R => (sgn (aO (v := I (t.try_ + 1)) aD (R.at 20) (R.at 19) rfl rfl a bH rfl ?_))))); intro s S
 refine aB (wp_seq (aA ?_))
 have T := hc
 obtain ⟨d, g, j, p, rfl, b, q, A, rfl⟩ := T
 refine rn S 6 R [] [(25, I (now + r.plan.wait)), (26, .pointer (some ⟨M, 3, none⟩))] [qb 5 rfl 3, qad now r.plan.wait] aD fun a U => (sgn (aO (v := I (now + r.plan.wait)) aD (U.at 26) (U.at 25) rfl rfl S bH rfl ?_)); intro s b
 refine aB (wp_seq ?_)
 have c := St.lendx (α := Task) aZ b.f2 (x := t) hti
 obtain ⟨X, a, Y, d, post56, g, j, Z, p, a0⟩ := c
 obtain ⟨b0, q, A⟩ := p; have b0 : _ = [I t.state, I t.need, I t.try_, I t.until_] := b0; subst b0
 refine aA (lw U [(1, I task), (6, pt_ n), (7, pt_ z), (8, pt_ M)] aD fun s => (rn a0.d1 5 s [] [(30, .agg #[I 3, I t.need, I (t.try_ + 1), I (now + r.plan.wait)]), (31, .pointer (some ⟨X, Y.length, none⟩))] [qb 4 rfl 7, qb 2 rfl 0, qxe Z (e := task) aE] aD fun a b => (sgn (gE (i := 0) (cs := [I 3, I t.need, I (t.try_ + 1), I (now + r.plan.wait)]) aD (b.at 31) (b.at 30) (aC rfl (aC rfl (aC rfl (aC rfl bE)))) a0.d1 rfl bH rfl ?_)))); intro s a
 refine aB (wp_seq ?_)
 have d := a.cs0 (cs := [I 3, I t.need, I (t.try_ + 1), I (now + r.plan.wait)]) (x := (⟨3, t.need, t.try_ + 1, now + r.plan.wait⟩ : Task)) ⟨rfl, rfl, (by have h_ := hok_t; simp only [Task.ok, I64] at h_ ⊢; omega)⟩
 have c := St.give (α := Task) d.f2.f1.f2
 obtain ⟨s, g⟩ := c
 refine aA (sg (aS (cs := [I r.id, I r.plan.prio, I r.plan.most, I r.plan.wait, I r.plan.tasks, D, I r.state, E]) bP rfl (b.at 7) (g.get 3 rfl) rfl rfl (sgn (aK aD (b.at 6) rfl (aC rfl (aC rfl (aC rfl (aC rfl (aC rfl (aC (Sl.one (aM (g.f4.get 3 rfl))) (aC rfl (aC (Sl.one (aM (g.f4.get 1 rfl))) bE)))))))) g.f4 bH rfl ?_)))); intro s a
 refine aB (wr (eT bP rfl results126 (b.at 6) (a.get 0 rfl) rfl ?_))
 have c := eP (x := (iX r (task).toNat t now)) a.f1.f3 (show Run.ok _ from hRI.small.1)
 exact ⟨_, _, rfl, c.d1.d1.d1.d1⟩
theorem PollS {y : Yard} (hc : Shape.C w cs y fp) (worker draw : Int) (hw : y.wt ≤ 1048576) (hdw : I64 draw) :
  Calls prog 66 #[.agg cs.toArray, I worker, I draw] w fun e w' => ∃ (cs' : List Value) (fp' : List Nat), e = .returned (.tuple #[.agg cs'.toArray, .agg #[I (eW y worker draw).2.code, I (eW y worker draw).2.run, I (eW y worker draw).2.task, I (eW y worker draw).2.try_]]) ∧ (eW y worker draw).2.ok ∧ St w w' [Res.own (.agg cs'.toArray) (eW y worker draw).1 fp'] := by
 have a := hdw
 unfold I64 at a
 refine iS func66 rfl ntmps66 aZ (wp_seq (aA (sg (aI (cs := cs) rfl (St.start w) ?_)))); intro c d g j
 refine sg (aQ cI j ?_); intro n p q z
 refine sg (aQ kA z ?_); intro A a B D
 refine aB (wp_seq (wp_seq (aA (rc D 3 Ag.nil.put.put.put.put.put.put [] [(20, .bool (!(dB y)))] [qw 2 rfl (Shape.len hc), qc func42 rfl (fun W s b => nD W (aR hc s.below) aE), .o] aD fun d g j p q => (aB (bZ (j.at 20) (fun E => ?_) (fun E => ?_)))))))
 ·refine wp_seq (aA (sg (aV aL rfl (j.at 3) (p.get 2 rfl) (Shape.len hc) (sg (bC func71 rfl rfl ((hX g (aR hc p.below) aE).mono ?_)))))); rintro _ a ⟨d, z, rfl, B⟩; refine ⟨_, rfl, ?_⟩
  have q := St.call p B
  refine sg (dD (vs := [(0, I 8)]) (cs := [I 8, I 0, I 0, I 0]) (bR (v := I 8) rfl dJ) aD (sgn (aJ (cs := d) aL (bB (q.f2.get 1 rfl) rfl) (j.at 6) rfl q.f2 rfl ?_))); intro a g
  refine sgn (aK aD (j.at 7) rfl (aC rfl (aC rfl (aC rfl (aC rfl bE)))) g.f2 bH rfl ?_); intro d z
  refine aB (wr (mW aL rfl fV rfl results66 (j.at 6) (z.get 1 rfl) (Shape.len (bB (z.get 2 rfl) rfl)) (j.at 7) (z.get 0 rfl) rfl ?_))
  have hfe : eW y worker draw = (y, ⟨8, 0, 0, 0⟩) := by unfold eW; rw [if_pos (by rw [(aY E)]; decide)]
  rw [hfe]
  exact ⟨_, _, rfl, (by simp only [Reply.ok, I64]; omega), z.f2.d1.d1.d1⟩
 refine wp_skip (wp_seq (wp_seq (aA (rc p 3 j [] [(26, .bool (!(inB worker 0 99)))] [qc func43 rfl (fun W s b => cR W worker 0 99), .o] aD fun a d g q B => (aB (bZ (g.at 26) (fun F => ?_) (fun F => ?_)))))))
 ·have D := cU (aY F)
  refine wp_seq (aA (sg (aV aL rfl (g.at 3) (q.get 2 rfl) (Shape.len hc) (sg (bC func71 rfl rfl ((hX d (aR hc q.below) aE).mono ?_)))))); rintro _ a ⟨j, p, rfl, z⟩; refine ⟨_, rfl, ?_⟩
  have B := St.call q z
  refine sg (dD (vs := [(0, I 5)]) (cs := [I 5, I 0, I 0, I 0]) (bR (v := I 5) rfl dJ) aD (sgn (aJ (cs := j) aL (bB (B.f2.get 1 rfl) rfl) (g.at 6) rfl B.f2 rfl ?_))); intro a p
  refine sgn (aK aD (g.at 7) rfl (aC rfl (aC rfl (aC rfl (aC rfl bE)))) p.f2 bH rfl ?_); intro j z
  refine aB (wr (mW aL rfl fV rfl results66 (g.at 6) (z.get 1 rfl) (Shape.len (bB (z.get 2 rfl) rfl)) (g.at 7) (z.get 0 rfl) rfl ?_))
  have hfe : eW y worker draw = (y, ⟨5, 0, 0, 0⟩) := by unfold eW; rw [if_neg (by rw [(aX E)]; decide), if_pos (by rw [(aY F)]; decide)]
  rw [hfe]
  exact ⟨_, _, rfl, (by simp only [Reply.ok, I64]; omega), z.f2.d1.d1.d1⟩
 have D := inB_iff'.1 (aX F)
 refine wp_skip (wp_seq ?_)
 have hY := iE (aX E)
 have hwk := inB_iff'.1 (aX F)
 have hHN : (((worker % 4).toNat : Nat) : Int) = (worker % 4) := by omega
 have G : (worker % 4).toNat < 4 := by omega
 have hvr : ∀ o ∈ (cT (worker % 4) draw), 0 ≤ o ∧ o ≤ 3 ∧ o ≠ (((worker % 4).toNat : Nat) : Int) := by rw [hHN]; exact oZ aE
 have hvl : (cT (worker % 4) draw).length = 3 := rfl
 refine aA (rn q 3 g [] [(8, I (worker % 4))] [qq worker 4] aD fun a j => (aB (wp_seq (aA (sg (aV aL rfl (j.at 3) (q.get 2 rfl) (Shape.len hc) (sg (aH (j.at 8) (sg (bN func121 rfl rfl rfl ((aP4 d (aR hc q.below) (worker % 4) aE).mono ?_))))))))))); rintro _ g ⟨p, z, rfl, B⟩; refine ⟨_, rfl, ?_⟩
 have a := St.call q B
 refine sg (aQ cI a ?_); intro H D J K
 refine sgn (aJ (cs := p) aL (bB (K.get 1 rfl) rfl) rfl rfl K rfl ?_); intro d g
 refine aB (wp_seq (aA (sg (aH (j.at 8) (sg (aH (j.at 2) (sg (bN func122 rfl rfl rfl ((VictimsS d (worker % 4) draw aE dL).mono ?_))))))))); rintro _ a ⟨L, M, rfl, q⟩; refine ⟨_, rfl, ?_⟩
 have B := St.call g q
 refine sg (aF (v := L) rfl (aB (wp_seq (wp_seq (aA (sg (aG (aB (vH (fun (f : Nat → Value) (W : World) => ∃ (N : List Value) (O : List Nat), Ag [(6, pt_ n), (7, pt_ A), (8, I (worker % 4)), (9, pt_ H)] f ∧ St w W ([Res.own (α := List Int) L (cT (worker % 4) draw) M, Res.bx H N 34, Res.own (α := Yard) (.agg N.toArray) (fJ (worker % 4).toNat (bW y (worker % 4)) (cT (worker % 4) draw)) O, Res.bx A [I 0, I 0, I 0, I 0] 75, Res.bx n [I 0, I 0, .slice none 0 0, .slice none 0 0] 34, Res.bx c cs 34])) ?_ (fun a P R => ?_))))))))))
 ·refine wp_block (bF (fun (m : Nat) (f : Nat → Value) (W : World) => ∃ (k : Nat) (S : List Value) (T : List Nat), k ≤ 3 ∧ m = 3 - k ∧ Ag [(6, pt_ n), (7, pt_ A), (8, I (worker % 4)), (9, pt_ H), (10, L), (11, I (k : Int))] f ∧ St w W ([Res.own (α := List Int) L (cT (worker % 4) draw) M, Res.bx H S 34, Res.own (α := Yard) (.agg S.toArray) (fJ (worker % 4).toNat (bW y (worker % 4)) ((cT (worker % 4) draw).take k)) T, Res.bx A [I 0, I 0, I 0, I 0] 75, Res.bx n [I 0, I 0, .slice none 0 0, .slice none 0 0] 34, Res.bx c cs 34])) (3 - 0) ?_ ?_)
  ·exact ⟨0, p, z, Nat.zero_le _, rfl, (j.put.put.put.put.put.put.put.put.put.to aD), B⟩
  intro a d g q
  obtain ⟨k, S, T, D, rfl, U, X⟩ := q
  refine wp_seq (wp_seq ?_)
  have hPI := PI.take hY (home := (worker % 4).toNat) G (l := (cT (worker % 4) draw)) hvr k
  rw [hHN] at hPI
  obtain ⟨out, hout⟩ : ∃ o, o = fJ (worker % 4).toNat (bW y (worker % 4)) ((cT (worker % 4) draw).take k) := ⟨_, rfl⟩
  rw [← hout] at hPI X
  have hwo := hPI.wt hY
  have hoo := hPI.ok hY
  have hol := hPI.len
  have hgh : out.shelf[(worker % 4).toNat]? = some (out.shelf.getD (worker % 4).toNat []) := getD_some aE
  have Y := hPI.each (worker % 4).toNat aE
  have hnow := hPI.now
  have hynow := hY.now
  refine aA ?_
  rcases nem ((k : Int) < ((cT (worker % 4) draw).length : Int)) with a | a
  ·have Z := decide_eq_false a
   refine rn X 13 U [] [(50, .bool false)] [ql (aM (X.get 0 rfl)), qk Z] aD fun d g => (aB (kI (g.at 50) rfl (wp_exit ?_)))
   have hfin : out = fJ (worker % 4).toNat (bW y (worker % 4)) (cT (worker % 4) draw) := by rw [hout]; exact wQ aE
   exact ⟨_, rfl, S, T, (g.to aD), (by rw [← hfin]; exact X)⟩
  have Z := decide_eq_true a
  have d := X.f2
  have a0 := eM d
  obtain ⟨b0, c0, e0, f0, g0, h0, j0⟩ := a0
  subst g0
  have k0 : (worker % 4).toNat < out.shelf.length := (gsi_.1 hgh).1
  have a0 := eB (aM (j0.get 0 rfl)) (i := (worker % 4).toNat) hgh
  obtain ⟨g, j, p, q, l0, m0, a, z⟩ := a0
  have n0 := a
  obtain ⟨d, rfl, B⟩ := n0
  refine rn j0 13 U [] [(50, .bool (decide (((out.shelf.getD (worker % 4).toNat []).length : Int) = 0)))] [ql (aM (j0.get 2 rfl)), qk Z, qb 3 rfl 2, qxe l0 (e := worker % 4) aE, qn m0 0, ql B, .o] aD fun g o0 => (aB (aP (o0.at 50) (fun p0 => ?_) (fun p0 => ?_)))
  ·refine wp_skip (wp_seq (wp_block (wp_seq ?_)))
   have a0 := dW (xs := (cT (worker % 4) draw)) (i := k) aE
   obtain ⟨o, hko⟩ := a0
   have hor := hvr o (mem_of_getElem? hko)
   rw [hHN] at hor
   have hemp := nil0 p0
   have hsw := hPI.sw (o := o) aE
   have q0 : k < (cT (worker % 4) draw).length := (gsi_.1 hko).1
   have a0 := eB (aM (j0.get 2 rfl)) (i := k) hko
   obtain ⟨a, d, g, j, s0, t0, p, q⟩ := a0
   have v0 := p
   obtain ⟨rfl, rfl, z⟩ := v0
   refine rk 5 j0 o0 [] [(53, .agg #[I out.now, I out.seq, b0, c0]), (57, I o)] [qb 3 rfl 0, qx s0, qn t0 0] aD aD fun B D w0 a d => (sg (bN func121 rfl (w0.at 53) (w0.at 57) ((aP4 D (show Shape.C _ [I out.now, I out.seq, b0, c0] out _ from ⟨_, _, _, _, rfl, h0, (aM (a.get 0 rfl)), (aM (a.get 1 rfl)), rfl⟩) o aE).mono ?_))); rintro _ g ⟨j, d, rfl, p⟩; refine ⟨_, rfl, ?_⟩
   have q := St.call a p
   refine sgn (aJ (cs := j) aL (bB (q.f4.get 1 rfl) rfl) (w0.at 9) rfl q.f4 rfl ?_); intro x0 z
   refine aB (wp_seq ?_)
   have B := hsw.1
   have hgo : (bW out o).shelf[(o).toNat]? = some ((bW out o).shelf.getD (o).toNat []) := getD_some aE
   have hgs : (bW out o).shelf[(worker % 4).toNat]? = some ((bW out o).shelf.getD (worker % 4).toNat []) := getD_some aE
   have a := hsw.2 (o).toNat aE
   have d := hsw.2 (worker % 4).toNat aE
   have g : (((bW out o).shelf.getD (o).toNat []).take (jA ((bW out o).shelf.getD (o).toNat []))).length ≤ 80 := by rw [length_take]; omega
   have a0 := eM z.f1
   obtain ⟨y0, z0, A0, B0, C0, j, D0⟩ := a0
   subst C0
   have q0 : k < (cT (worker % 4) draw).length := (gsi_.1 hko).1
   have a0 := eB (aM (D0.get 5 rfl)) (i := k) hko
   obtain ⟨E0, F0, a, d, G0, H0, g, p⟩ := a0
   have J0 := g
   obtain ⟨rfl, rfl, q⟩ := J0
   have j : (o).toNat < (bW out o).shelf.length := (gsi_.1 hgo).1
   have a0 := eB (aM (D0.get 0 rfl)) (i := (o).toNat) hgo
   obtain ⟨K0, L0, z, B, M0, N0, D, a⟩ := a0
   have O0 := D
   obtain ⟨d, rfl, P0⟩ := O0
   refine cK 13 [(some 8, none, .of (ι := Value × List Nat × Value) [68] (fun ⟨Q0, R0, S0⟩ => [.tuple #[Q0, S0]]) (fun ⟨Q0, R0, S0⟩ => Res.own (α := List Entry) Q0 (((bW out o).shelf.getD (o).toNat []).take (jA ((bW out o).shelf.getD (o).toNat []))) R0)), (some 8, none, .of (ι := Value × List Nat × Value) [68] (fun ⟨S0, T0, Q0⟩ => [.tuple #[Q0, S0]]) (fun ⟨S0, T0, Q0⟩ => Res.own (α := List Entry) S0 (((bW out o).shelf.getD (o).toNat []).drop (jA ((bW out o).shelf.getD (o).toNat []))) T0))] [(true, .is (.pointer (some ⟨H, 0 + 2, none⟩))), (true, .is (y0)), (true, .is (L)), (true, .is (I (k : Int))), (true, .is (.pointer (some ⟨E0, F0, none⟩))), (true, .is (I o)), (true, .is (.pointer (some ⟨K0, L0, none⟩))), (true, .is (d)), (false, .ex (fun (x_ : Value × Value) => match x_ with | (Q0, S0) => .tuple #[Q0, S0])), (true, .cp 68), (true, .pj 68 0), (true, .pj 68 1), (true, .pj 68 0)] mix aD aD aD aD (rs0 := []) rfl D0 (Below.refl _ _) ⟨(fq_ eC (w0.at 9)), (fun f W hst hbl hd hf => aW eF rfl (hd 0 60 rfl rfl) (hst.get 2 rfl) (i := 2) rfl rfl brq), (mq_ (w0.at 10)), (mq_ (w0.at 11)), (fun f W hst hbl hd hf => aT eG (hd 2 62 rfl rfl) G0 (hd 3 63 rfl rfl) rfl brq), (fun f W hst hbl hd hf => dP dA rfl (hd 4 64 rfl rfl) H0 hbl (i := 0) rfl rfl brq), (fun f W hst hbl hd hf => aT eO (hd 1 61 rfl rfl) M0 (hd 5 65 rfl rfl) aE brq), (fun f W hst hbl hd hf => dP jD rfl (hd 6 66 rfl rfl) N0 hbl (i := 0) rfl rfl brq), ?_, (fun f W hst hbl hd hf => by have U0 := hd 8 68 rfl rfl; obtain ⟨⟨Q0, S0⟩, a0⟩ := U0; exact aH (v := .tuple #[Q0, S0]) a0 ⟨Below.refl _ _, a0.symm⟩), (fun f W hst hbl hd hf => by have U0 := hd 8 68 rfl rfl; obtain ⟨⟨Q0, S0⟩, a0⟩ := U0; exact fS ((hd 9 59 rfl rfl).trans a0) rfl ⟨Below.refl _ _, (by show _ = prj 0 (f 68); rw [a0]; rfl)⟩), (fun f W hst hbl hd hf => by have U0 := hd 8 68 rfl rfl; obtain ⟨⟨Q0, S0⟩, a0⟩ := U0; exact fS ((hd 9 59 rfl rfl).trans a0) rfl ⟨Below.refl _ _, (by show _ = prj 1 (f 68); rw [a0]; rfl)⟩), (fun f W hst hbl hd hf => by have U0 := hd 8 68 rfl rfl; obtain ⟨⟨Q0, S0⟩, a0⟩ := U0; exact aF (v := Q0) ((hd 10 69 rfl rfl).trans (by rw [a0]; rfl)) ⟨Below.refl _ _, (by show _ = prj 0 (f 68); rw [a0]; rfl)⟩), trivial⟩ ?_
   ·intro f W ru oth hu hst hbl hd hf
    have V0 : ru = [] := hu
    subst V0
    try simp only [cap_, cL] at hst
    refine (bC func123 rfl (hd 7 67 rfl rfl) ((HalfOfS W (P0.below hbl) aE).mono ?_)); rintro _ a ⟨Q0, R0, S0, T0, rfl, d⟩; refine ⟨_, rfl, ?_⟩
    have g := St.call hst d
    exact ⟨⟨(Q0, S0), rfl⟩, ⟨_, ⟨_, _, rfl, ⟨(Q0, R0, S0), (ce rfl rfl), rfl⟩, _, _, rfl, ⟨(S0, T0, Q0), (ce rfl rfl), rfl⟩, rfl⟩, g⟩, (hbl.trans (Below.mono d.below hbl.size))⟩
   intro W0 a rs_ hAL_ X0 j Y0 Z0
   obtain ⟨_, _, rfl, ⟨⟨Q0, R0, S0⟩, p, rfl⟩, _, _, rfl, ⟨⟨v147z160, T0, v145z160⟩, q, rfl⟩, V0⟩ := hAL_
   have V0 : _ = [] := V0
   subst V0
   have a1 : W0 68 = .tuple #[Q0, S0] := congrArg (fun l => l.getD 0 undef) p
   have b1 : W0 68 = .tuple #[v145z160, v147z160] := congrArg (fun l => l.getD 0 undef) q
   obtain rfl : S0 = v147z160 := by have h_ := a1.symm.trans b1; first | exact h_ | (simp at h_; first | exact h_ | exact h_.1 | exact h_.2 | exact h_.1.1)
   obtain rfl : Q0 = v145z160 := by have h_ := a1.symm.trans b1; first | exact h_ | (simp at h_; first | exact h_ | exact h_.1 | exact h_.2 | exact h_.1.1)
   try simp only [cap_, cL] at X0
   refine sg (aF (v := S0) ((Y0 11 70 aZ rfl).trans (by rw [a1]; rfl)) (aB (wp_seq ?_)))
   have a := X0.f2
   have a0 := St.lendx (α := List Entry) aZ a (x := ((bW out o).shelf.getD (o).toNat [])) hgo
   obtain ⟨c1, d, e1, g, post165, g1, j, h1, p, q⟩ := a0
   have a0 := q.f1.uncs1
   obtain ⟨j1, k1, l1⟩ := a0; subst k1
   have q0 : k < (cT (worker % 4) draw).length := (gsi_.1 hko).1
   have a0 := eB (aM (l1.get 9 rfl)) (i := k) hko
   obtain ⟨a, z, d, B, m1, n1, g, j⟩ := a0
   have o1 := g
   obtain ⟨rfl, rfl, p⟩ := o1
   refine rk 8 l1 (Ag.cons (show W0 6 = pt_ n from ((Z0 6 rfl).trans (w0.at 6))) (Ag.cons (show W0 7 = pt_ A from ((Z0 7 rfl).trans (w0.at 7))) (Ag.cons (show W0 8 = I (worker % 4) from ((Z0 8 rfl).trans (w0.at 8))) (Ag.cons (show W0 9 = pt_ H from ((Z0 9 rfl).trans (w0.at 9))) (Ag.cons (show W0 10 = L from ((Z0 10 rfl).trans (w0.at 10))) (Ag.cons (show W0 11 = I (k : Int) from ((Z0 11 rfl).trans (w0.at 11))) (Ag.cons (show W0 12 = Q0 from ((Y0 12 12 aZ rfl).trans (by rw [a1]; rfl))) Ag.nil))))))).put [] [(77, S0), (78, .pointer (some ⟨c1, e1.length, none⟩))] [qb 6 rfl 2, qx m1, qn n1 0, qxe h1 (e := o) aE] aD aD fun a d p1 g j => (sgn (bS (i := 0) (v := S0) aD (p1.at 78) (p1.at 77) (Sl.cells (aM (g.f1.get 4 rfl))) (Sl.one (aM (g.f1.get 4 rfl))) g.f1 rfl bH rfl ?_)); intro q1 p
   refine aB ?_
   have q := p.f4.cs1
   have a0 := St.give (α := List Entry) q.f3.f1.f2
   obtain ⟨a, d⟩ := a0
   have j : ((bW out o).shelf.set (o).toNat (((bW out o).shelf.getD (o).toNat []).drop (jA ((bW out o).shelf.getD (o).toNat []))))[(worker % 4).toNat]? = some ((bW out o).shelf.getD (worker % 4).toNat []) := by rw [getElem?_set_ne aE]; exact hgs
   have a0 := St.lendx (α := List Entry) aZ d (x := ((bW out o).shelf.getD (worker % 4).toNat [])) j
   obtain ⟨r1, s1, t1, a, post188, u1, v1, x1, g, p⟩ := a0
   have a0 := p.f1.uncs1
   obtain ⟨y1, z1, A1⟩ := a0; subst z1
   refine cK 10 [(some 9, none, .of (ι := Value × List Nat) [88] (fun ⟨a, d⟩ => [a]) (fun ⟨a, d⟩ => Res.own (α := List Entry) a (fQ ((bW out o).shelf.getD (worker % 4).toNat []) (((bW out o).shelf.getD (o).toNat []).take (jA ((bW out o).shelf.getD (o).toNat [])))) d))] [(true, .is (.pointer (some ⟨H, 0 + 2, none⟩))), (true, .is (y0)), (true, .is (I (worker % 4))), (true, .is (.pointer (some ⟨H, 0 + 2, none⟩))), (true, .is (y0)), (true, .is (I (worker % 4))), (true, .is (.pointer (some ⟨r1, t1.length, none⟩))), (true, .is (y1)), (true, .is (Q0)), (false, .ex (fun (a : Value) => a))] mix aD aD aD aD (rs0 := []) rfl A1 (Below.refl _ _) ⟨(fq_ eC (p1.at 9)), (fun f W hst hbl hd hf => aW eF rfl (hd 0 79 rfl rfl) (hst.get 6 rfl) (i := 2) rfl rfl brq), (mq_ (p1.at 8)), (fq_ eC (p1.at 9)), (fun f W hst hbl hd hf => aW eF rfl (hd 3 82 rfl rfl) (hst.get 6 rfl) (i := 2) rfl rfl brq), (mq_ (p1.at 8)), (fun f W hst hbl hd hf => aT eO (hd 4 83 rfl rfl) x1 (hd 5 84 rfl rfl) aE brq), (fun f W hst hbl hd hf => gR jD rfl (hd 6 85 rfl rfl) (hst.get 1 rfl) (i := 0) rfl rfl brq), (mq_ (p1.at 12)), ?_, trivial⟩ ?_
   ·intro f W ru oth hu hst hbl hd hf
    have V0 : ru = [] := hu
    subst V0
    try simp only [cap_, cL] at hst
    refine (bN func124 rfl (hd 7 86 rfl rfl) (hd 8 87 rfl rfl) ((MergedS W (aM (hst.get 0 rfl)) (aM (hst.get 4 rfl)) aE aE).mono ?_)); rintro _ g ⟨a, d, rfl, j⟩; refine ⟨_, rfl, ?_⟩
    have p := St.call hst j
    exact ⟨⟨a, rfl⟩, ⟨_, ⟨_, _, rfl, ⟨(a, d), (ce rfl rfl), rfl⟩, rfl⟩, p⟩, (hbl.trans (Below.mono j.below hbl.size))⟩
   intro q z rs_ hAL_ B D J g
   obtain ⟨_, _, rfl, ⟨⟨a, d⟩, K, rfl⟩, V0⟩ := hAL_
   have V0 : _ = [] := V0
   subst V0
   have S : q 88 = a := congrArg (fun l => l.getD 0 undef) K
   try simp only [cap_, cL] at B
   refine sg (aT eO (J 1 80 aZ rfl) x1 (J 2 81 aZ rfl) aE ?_)
   have d := B.f2
   refine sgn (bS (i := 0) (v := a) aD rfl S (Sl.cells (aM (d.get 1 rfl))) (Sl.one (aM (d.get 1 rfl))) d rfl bH rfl ?_); intro j p
   refine aB (aA (rn p 3 (Ag.cons (show q 6 = pt_ n from ((g 6 rfl).trans (p1.at 6))) (Ag.cons (show q 7 = pt_ A from ((g 7 rfl).trans (p1.at 7))) (Ag.cons (show q 8 = I (worker % 4) from ((g 8 rfl).trans (p1.at 8))) (Ag.cons (show q 9 = pt_ H from ((g 9 rfl).trans (p1.at 9))) (Ag.cons (show q 10 = L from ((g 10 rfl).trans (p1.at 10))) (Ag.cons (show q 11 = I (k : Int) from ((g 11 rfl).trans (p1.at 11))) Ag.nil)))))).put [11] [(11, I ((k : Int) + 1))] [qad (k : Int) 1] aD fun a d => (aB ?_)))
   have j := p.f1.cs1
   have a0 := St.give (α := List Entry) j.f3.f1.f2
   obtain ⟨z, B⟩ := a0
   have D := cH (x := (jI (jI (bW out o) (o).toNat (((bW out o).shelf.getD (o).toNat []).drop (jA ((bW out o).shelf.getD (o).toNat [])))) (worker % 4).toNat (fQ ((bW out o).shelf.getD (worker % 4).toNat []) (((bW out o).shelf.getD (o).toNat []).take (jA ((bW out o).shelf.getD (o).toNat [])))))) B.f4.f1 (by assumption)
   exact ⟨_, 3 - (k + 1), aE, rfl, k + 1, [I (bW out o).now, I (bW out o).seq, y0, z0], _, aE, rfl, (d.to aD), (by rw [yV hko (by rw [← hout]; exact hemp), ← hout, robY_comm aE]; exact D.f10.f10.f10.f3.f7.f10.d6.d6.d6.d6.d6)⟩
  refine wp_exit ?_
  have a := cH (x := out) j0.f1.f1 hoo
  have hfin : out = fJ (worker % 4).toNat (bW y (worker % 4)) (cT (worker % 4) draw) := by rw [hout]; exact (wP (by rw [← hout]; exact ne_nil0 p0)).symm
  exact ⟨_, rfl, [I out.now, I out.seq, b0, c0], _, (o0.to aD), (by rw [← hfin]; exact a.f5.f5.f5.f3.f5.f5)⟩
 obtain ⟨N, O, B1, C1⟩ := R
 refine wp_seq ?_
 have hPI := PI.all hY G hvr (PI.start hY G)
 rw [hHN] at hPI
 obtain ⟨out, hout⟩ : ∃ o, o = fJ (worker % 4).toNat (bW y (worker % 4)) (cT (worker % 4) draw) := ⟨_, rfl⟩
 rw [← hout] at hPI C1
 have hwo := hPI.wt hY
 have hoo := hPI.ok hY
 have hol := hPI.len
 have hgh : out.shelf[(worker % 4).toNat]? = some (out.shelf.getD (worker % 4).toNat []) := getD_some aE
 have Y := hPI.each (worker % 4).toNat aE
 have hnow := hPI.now
 have hynow := hY.now
 refine aA ?_
 have a := C1.f2
 have a0 := eM a
 obtain ⟨D1, E1, d, g, F1, j, G1⟩ := a0
 subst F1
 have k0 : (worker % 4).toNat < out.shelf.length := (gsi_.1 hgh).1
 have a0 := eB (aM (G1.get 0 rfl)) (i := (worker % 4).toNat) hgh
 obtain ⟨p, q, z, B, H1, J1, D, G⟩ := a0
 have K1 := D
 obtain ⟨a, rfl, J⟩ := K1
 refine rn G1 5 B1 [] [(95, a)] [qb 3 rfl 2, qxe H1 (e := worker % 4) aE, qn J1 0] aD fun d g => (sg (bC func125 rfl (g.at 95) ((TakeS P J aE).mono ?_))); rintro _ j ⟨L1, p, rfl, hokf263, q⟩; refine ⟨_, rfl, ?_⟩
 have z := St.call G1 q
 refine rn z 4 g.put [] [(97, .agg #[I ((out.shelf.getD (worker % 4).toNat []).headD lK).prio, I ((out.shelf.getD (worker % 4).toNat []).headD lK).seq, I ((out.shelf.getD (worker % 4).toNat []).headD lK).run, I ((out.shelf.getD (worker % 4).toNat []).headD lK).task]), (98, L1), (99, .bool (!decide ((out.shelf.getD (worker % 4).toNat []) = [])))] [] aD fun a M1 => (sg (aQ iU z ?_)); intro N1 d j p
 refine sgn (aK aD rfl (M1.at 97) (aC rfl (aC rfl (aC rfl (aC rfl bE)))) p bH rfl ?_); intro a d
 refine sg (aF (M1.at 98) (sg (aF (M1.at 99) (aB (wp_seq (wp_seq (aA (sg (aH (v := .bool (!decide ((out.shelf.getD (worker % 4).toNat []) = []))) rfl (sg (sC rfl (aB (bZ rfl (fun g => ?_) (fun g => ?_))))))))))))))
 ·refine wp_seq ?_
  have a : (out.shelf.getD (worker % 4).toNat []) = [] := dne g
  refine aA (sg (aS (cs := [I out.now, I out.seq, D1, E1]) aL rfl (M1.at 9) (d.get 5 rfl) rfl rfl (sg (dD (vs := [(0, I 9)]) (cs := [I 9, I 0, I 0, I 0]) (bR (v := I 9) rfl dJ) aD ?_))))
  have j := d.f7
  refine sgn (aK aD (M1.at 6) rfl (aC rfl (aC rfl (aC (Sl.one (aM (j.get 3 rfl))) (aC (Sl.one (aM (j.get 4 rfl))) bE)))) j bH rfl ?_); intro p q
  refine sgn (aK aD (M1.at 7) rfl (aC rfl (aC rfl (aC rfl (aC rfl bE)))) q.f7 bH rfl ?_); intro z B
  refine aB (wr (mW aL rfl fV rfl results66 (M1.at 6) (B.get 1 rfl) rfl (M1.at 7) (B.get 0 rfl) rfl ?_))
  have j := cH (x := out) B.f5.f5 hoo
  have hfe : eW y worker draw = (out, ⟨9, 0, 0, 0⟩) := by unfold eW; rw [if_neg (by rw [(aX E)]; decide), if_neg (by rw [(aX F)]; decide), ← hout]; exact xJ a
  rw [hfe]
  exact ⟨_, _, rfl, (by simp only [Reply.ok, I64]; omega), j.d1.d1.d1.d1.d1.d1.d1⟩
 refine wp_skip (wp_seq ?_)
 have a0 := aM3 (dnf g)
 obtain ⟨e, rest, hxe⟩ := a0
 have hhd : (out.shelf.getD (worker % 4).toNat []).headD lK = e := by rw [hxe]; rfl
 have hdr : (out.shelf.getD (worker % 4).toNat []).drop 1 = rest := by rw [hxe]; rfl
 have hrl : rest.length ≤ 80 := by have h_ := Y; rw [hxe] at h_; simp only [length_cons] at h_; omega
 have heo : e.ok := by rw [← hhd]; exact hokf263
 have a0 := aG3 (hPI.fresh e (by rw [hxe]; exact mem_cons_self))
 obtain ⟨k, r, t, hix, hry, O1, hti, a⟩ := a0
 have hixo : eQ out e.run = some k := (wK hPI.runs _).trans hix
 have hro : out.runs[k]? = some r := by rw [hPI.runs]; exact hry
 have hRI := (hY.run k r hry).1
 have htr := hRI.tries hti
 have hwy := hPI.wtS hY hrl
 rw [hhd, hdr] at d
 have a := d.f2
 have a0 := St.lendx (α := List Entry) aZ a (x := (out.shelf.getD (worker % 4).toNat [])) hgh
 obtain ⟨P1, g, Q1, j, post298, S1, p, T1, q, z⟩ := a0
 have a0 := z.f1.uncs1
 obtain ⟨U1, V1, W1⟩ := a0; subst V1
 refine aA (rn W1 5 M1.put.put.put.put.put [] [(107, L1), (108, .pointer (some ⟨P1, Q1.length, none⟩))] [qb 7 rfl 2, qxe T1 (e := worker % 4) aE] aD fun a d => (sgn (bS (i := 0) (v := L1) aD (d.at 108) (d.at 107) (Sl.cells (aM (W1.f1.get 4 rfl))) (Sl.one (aM (W1.f1.get 4 rfl))) W1.f1 rfl bH rfl ?_))); intro g j
 refine aB (wp_seq ?_)
 have p := j.f4.cs1
 have a0 := St.give (α := List Entry) p.f3.f1.f2
 obtain ⟨X1, a⟩ := a0
 refine aA (rc a 5 d [] [(17, I (k : Int))] [qb 5 rfl 0, qb 2 rfl 2, qc func90 rfl (fun W s b => nT W (show Shape.C _ [I out.now, I out.seq, D1, E1] (⟨out.now, out.seq, (out.shelf).set (worker % 4).toNat rest, out.runs⟩ : Yard) _ from ⟨_, _, _, _, rfl, fF, (aM (s.get 0 rfl)), (aM (s.get 3 rfl)), rfl⟩) e.run (show Yard.wt _ ≤ _ from Nat.le_trans hwy aE) hixo)] aD fun a d Y1 g j => (aB (wp_seq ?_)))
 have p := g.f3
 have a0 := St.lendx (α := Run) aZ p (x := r) hro
 obtain ⟨Z1, a2, b2, c2, post323, e2, g2, h2, q, z⟩ := a0
 have B := z.f1.uncs rfl
 refine cK 13 [(some 12, none, .of (ι := List Value × List Nat) [125] (fun ⟨a, d⟩ => [.agg a.toArray]) (fun ⟨a, d⟩ => Res.own (α := Run) (.agg a.toArray) (iX r (e.task).toNat t out.now) d))] [(true, .is (.pointer (some ⟨H, 0 + 3, none⟩))), (true, .is (E1)), (true, .is (I (k : Int))), (true, .is (.pointer (some ⟨H, 0 + 3, none⟩))), (true, .is (E1)), (true, .is (I (k : Int))), (true, .is (.pointer (some ⟨Z1, b2.length, none⟩))), (true, .is (.agg c2.toArray)), (true, .is (.pointer (some ⟨N1, 0 + 3, none⟩))), (true, .is (I e.task)), (true, .is (.pointer (some ⟨H, 0 + 0, none⟩))), (true, .is (I out.now)), (false, .ex (fun (a : List Value) => .agg a.toArray))] mix aD aD aD aD (rs0 := []) rfl B (Below.refl _ _) ⟨(fq_ dG (Y1.at 9)), (fun f W hst hbl hd hf => aW fR rfl (hd 0 113 rfl rfl) (hst.get 7 rfl) (i := 3) rfl rfl brq), (mq_ (Y1.at 17)), (fq_ dG (Y1.at 9)), (fun f W hst hbl hd hf => aW fR rfl (hd 3 116 rfl rfl) (hst.get 7 rfl) (i := 3) rfl rfl brq), (mq_ (Y1.at 17)), (fun f W hst hbl hd hf => aT dS (hd 4 117 rfl rfl) h2 (hd 5 118 rfl rfl) rfl brq), (fun f W hst hbl hd hf => sE bP rfl (hd 6 119 rfl rfl) (hst.get 1 rfl) rfl (Shape.len (bB (hst.get 0 rfl) rfl)) brq), (fq_ oJ (Y1.at 14)), (fun f W hst hbl hd hf => aW dA rfl (hd 8 121 rfl rfl) (hst.get 5 rfl) (i := 3) rfl rfl brq), (fq_ fa_Yard_0 (Y1.at 9)), (fun f W hst hbl hd hf => aW dA rfl (hd 10 123 rfl rfl) (hst.get 7 rfl) (i := 0) rfl rfl brq), ?_, trivial⟩ ?_
 ·intro f W ru oth hu hst hbl hd hf
  have V0 : ru = [] := hu
  subst V0
  try simp only [cap_, cL] at hst
  refine (eL func126 rfl (hd 7 120 rfl rfl) (hd 9 122 rfl rfl) (hd 11 124 rfl rfl) ((StartedS W (bB (hst.get 0 rfl) rfl) e.task out.now O1 hti aE hRI).mono ?_)); rintro _ g ⟨a, d, rfl, j⟩; refine ⟨_, rfl, ?_⟩
  have p := St.call hst j
  exact ⟨⟨a, rfl⟩, ⟨_, ⟨_, _, rfl, ⟨(a, d), (ce rfl rfl), rfl⟩, rfl⟩, p⟩, (hbl.trans (Below.mono j.below hbl.size))⟩
 intro q z rs_ hAL_ B D G j2
 obtain ⟨_, _, rfl, ⟨⟨a, d⟩, g, rfl⟩, V0⟩ := hAL_
 have V0 : _ = [] := V0
 subst V0
 have J : q 125 = .agg a.toArray := congrArg (fun l => l.getD 0 undef) g
 try simp only [cap_, cL] at B
 refine sg (aT dS (G 1 114 aZ rfl) h2 (G 2 115 aZ rfl) rfl ?_)
 have d := B.f2
 refine sgn (kS (cs := a) bP (bB (d.get 1 rfl) rfl) rfl J d rfl (Shape.len (bB (d.get 2 rfl) rfl)) ?_); intro g j
 refine aB (wp_seq ?_)
 have k2 : (iX r (e.task).toNat t out.now).tasks[(e.task).toNat]? = some (⟨3, t.need, t.try_ + 1, out.now + r.plan.wait⟩ : Task) := getElem?_set_self (gsi_.1 hti).1
 have hss : ((iX r (e.task).toNat t out.now).tasks).set (e.task).toNat (⟨3, t.need, t.try_ + 1, out.now + r.plan.wait⟩ : Task) = (iX r (e.task).toNat t out.now).tasks := by unfold iX; simp only [set_set]
 have a0 := iZ j.f1
 obtain ⟨l2, m2, n2, a, o2, d, p2⟩ := a0
 subst o2
 have a0 := St.lendx (α := Task) aZ p2.f1 (x := (⟨3, t.need, t.try_ + 1, out.now + r.plan.wait⟩ : Task)) k2
 obtain ⟨q2, r2, s2, g, post355, p, t2, u2, q, v2⟩ := a0
 obtain ⟨w2, z, x2⟩ := q; have w2 : _ = [I (⟨3, t.need, t.try_ + 1, out.now + r.plan.wait⟩ : Task).state, I (⟨3, t.need, t.try_ + 1, out.now + r.plan.wait⟩ : Task).need, I (⟨3, t.need, t.try_ + 1, out.now + r.plan.wait⟩ : Task).try_, I (⟨3, t.need, t.try_ + 1, out.now + r.plan.wait⟩ : Task).until_] := w2; subst w2
 refine cK 18 [(none, some 17, .is (Res.bx n [I 0, I 0, .slice none 0 0, .slice none 0 0] 34)), (some 17, none, .is (Res.bx n [I out.now, I out.seq, D1, E1] 34))] [(true, .is (.agg #[I out.now, I out.seq, D1, E1])), (true, .is (.pointer (some ⟨N1, 0 + 2, none⟩))), (true, .is (I e.run)), (true, .is (.pointer (some ⟨N1, 0 + 3, none⟩))), (true, .is (I e.task)), (true, .is (.pointer (some ⟨H, 0 + 3, none⟩))), (true, .is (E1)), (true, .is (I (k : Int))), (true, .is (.pointer (some ⟨Z1, b2.length, none⟩))), (true, .is (.pointer (some ⟨Z1, b2.length + 7, none⟩))), (true, .is (m2)), (true, .is (.pointer (some ⟨N1, 0 + 3, none⟩))), (true, .is (I e.task)), (true, .is (.pointer (some ⟨q2, s2.length, none⟩))), (true, .is (.pointer (some ⟨q2, s2.length + 2, none⟩))), (true, .is (I (⟨3, t.need, t.try_ + 1, out.now + r.plan.wait⟩ : Task).try_)), (true, .is (.agg #[I 0, I e.run, I e.task, I (⟨3, t.need, t.try_ + 1, out.now + r.plan.wait⟩ : Task).try_])), (false, .is undef)] mix aD aD aD aD (rs0 := [Res.bx n [I 0, I 0, .slice none 0 0, .slice none 0 0] 34]) ⟨_, _, rfl, rfl, rfl⟩ v2.d1.f12 v2.d1.f12.below ⟨(fun f W hst hbl hd hf => aS (cs := [I out.now, I out.seq, D1, E1]) aL rfl ((hf 9 rfl).trans ((j2 9 rfl).trans (Y1.at 9))) (hst.get 10 rfl) rfl rfl brq), (fq_ xS ((j2 14 rfl).trans (Y1.at 14))), (fun f W hst hbl hd hf => aW dA rfl (hd 1 128 rfl rfl) (hst.get 8 rfl) (i := 2) rfl rfl brq), (fq_ oJ ((j2 14 rfl).trans (Y1.at 14))), (fun f W hst hbl hd hf => aW dA rfl (hd 3 130 rfl rfl) (hst.get 8 rfl) (i := 3) rfl rfl brq), (fq_ dG ((j2 9 rfl).trans (Y1.at 9))), (fun f W hst hbl hd hf => aW fR rfl (hd 5 132 rfl rfl) (hst.get 10 rfl) (i := 3) rfl rfl brq), (mq_ ((j2 17 rfl).trans (Y1.at 17))), (fun f W hst hbl hd hf => aT dS (hd 6 133 rfl rfl) h2 (hd 7 134 rfl rfl) rfl brq), (fun f W hst hbl hd hf => aN hH (hd 8 135 rfl rfl) brq), (fun f W hst hbl hd hf => gR pN rfl (hd 9 136 rfl rfl) (hst.get 3 rfl) (i := 7) rfl rfl brq), (fq_ oJ ((j2 14 rfl).trans (Y1.at 14))), (fun f W hst hbl hd hf => aW dA rfl (hd 11 138 rfl rfl) (hst.get 8 rfl) (i := 3) rfl rfl brq), (fun f W hst hbl hd hf => aT gH (hd 10 137 rfl rfl) u2 (hd 12 139 rfl rfl) aE brq), (fun f W hst hbl hd hf => aN qQ (hd 13 140 rfl rfl) brq), (fun f W hst hbl hd hf => gR dA rfl (hd 14 141 rfl rfl) (hst.get 0 rfl) (i := 2) rfl rfl brq), (fun f W hst hbl hd hf => dD (vs := [(1, I e.run), (2, I e.task), (3, I (⟨3, t.need, t.try_ + 1, out.now + r.plan.wait⟩ : Task).try_)]) (cs := [I 0, I e.run, I e.task, I (⟨3, t.need, t.try_ + 1, out.now + r.plan.wait⟩ : Task).try_]) (bR (v := I e.run) (hd 2 129 rfl rfl) (bR (v := I e.task) (hd 4 131 rfl rfl) (bR (v := I (⟨3, t.need, t.try_ + 1, out.now + r.plan.wait⟩ : Task).try_) (hd 15 142 rfl rfl) dJ))) aD brq), ?_, trivial⟩ ?_
 ·intro f W ru oth hu hst hbl hd hf
  obtain ⟨_, _, rfl, rfl, V0⟩ := hu
  have V0 : _ = [] := V0
  subst V0
  try simp only [cap_, cL] at hst
  refine (aK aD ((hf 6 rfl).trans ((j2 6 rfl).trans (Y1.at 6))) (hd 0 127 rfl rfl) (aC rfl (aC rfl (aC (Sl.one (aM (hst.get 7 rfl))) (aC (yG h2) bE)))) hst bH rfl ?_); intro a c
  exact ⟨rfl, ⟨_, ⟨_, _, rfl, rfl, rfl⟩, c⟩, c.below⟩
 intro d g rs_ hAL_ j n p q
 obtain ⟨_, _, rfl, rfl, V0⟩ := hAL_
 have V0 : _ = [] := V0
 subst V0
 try simp only [cap_, cL] at j
 have a := j.f12
 refine sgn (aK aD ((q 7 rfl).trans ((j2 7 rfl).trans (Y1.at 7))) (p 16 143 aZ rfl) (aC rfl (aC rfl (aC rfl (aC rfl bE)))) a bH rfl ?_); intro c d
 refine aB (wr (mW aL rfl fV rfl results66 ((q 6 rfl).trans ((j2 6 rfl).trans (Y1.at 6))) (d.get 1 rfl) rfl ((q 7 rfl).trans ((j2 7 rfl).trans (Y1.at 7))) (d.get 0 rfl) rfl ?_))
 have g := d.cs0 (cs := [I (⟨3, t.need, t.try_ + 1, out.now + r.plan.wait⟩ : Task).state, I (⟨3, t.need, t.try_ + 1, out.now + r.plan.wait⟩ : Task).need, I (⟨3, t.need, t.try_ + 1, out.now + r.plan.wait⟩ : Task).try_, I (⟨3, t.need, t.try_ + 1, out.now + r.plan.wait⟩ : Task).until_]) (x := (⟨3, t.need, t.try_ + 1, out.now + r.plan.wait⟩ : Task)) ⟨rfl, rfl, x2⟩
 have a0 := St.give (α := Task) g.f4.f1.f4
 obtain ⟨a, c⟩ := a0
 rw [hss] at c
 have d := c.f3
 have j := eP (x := (iX r (e.task).toNat t out.now)) d (show Run.ok _ from hRI.small.1)
 have n := j.cs rfl
 have a0 := St.give (α := Run) n.f5.f1.f4
 obtain ⟨p, q⟩ := a0
 have g := cH (x := (⟨out.now, out.seq, out.shelf.set (worker % 4).toNat rest, out.runs.set k (iX r (e.task).toNat t out.now)⟩ : Yard)) q.f4 (show Yard.ok _ from hoo)
 try dsimp only at g
 have a := g.d1
 have c := a.d1.d1.d1.d1.d1.d1.d1
 have hfe : eW y worker draw = ((⟨out.now, out.seq, out.shelf.set (worker % 4).toNat rest, out.runs.set k (iX r (e.task).toNat t out.now)⟩ : Yard), ⟨0, e.run, e.task, t.try_ + 1⟩) := by unfold eW; rw [if_neg (by rw [(aX E)]; decide), if_neg (by rw [(aX F)]; decide), ← hout]; exact zF hxe hixo hro hti
 rw [hfe]
 exact ⟨_, _, rfl, (by have a := heo; simp only [Entry.ok, Reply.ok, I64] at *; omega), c⟩
def xH (n : Int) (t : Task) : Bool := decide (t.state = 3) && decide (t.until_ ≤ n + 1)
def uY (n : Int) (r : Run) (m : Nat) : List Nat := (List.range m).filter (fun i => match r.tasks[i]? with | some t => xH n t | none => false)
def lC (y : Yard) : Nat → List (Nat × Nat)
 | 0 => []
 | k + 1 => lC y k ++ (match y.runs[k]? with | some r => (uY y.now r r.tasks.length).map (fun i => (k, i)) | none => [])
def jL (y : Yard) (p : Nat × Nat) : List Int := match y.runs[p.1]? with | some r => (match r.tasks[p.2]? with | some t => [r.id, p.2, t.try_] | none => []) | none => []
def kE (y : Yard) (k : Nat) (r : Run) (i : Nat) : List (List Int) := (lC y k ++ (uY y.now r i).map (fun j => (k, j))).map (jL y)
def cB (y : Yard) : List (Nat × Nat) := lC y y.runs.length
theorem uZ (y : Yard) (k : Nat) (r : Run) : kE y k r 0 = (lC y k).map (jL y) := by simp [kE, uY]
theorem sV {y : Yard} {k : Nat} {r : Run} {i : Nat} {t : Task} (hr : y.runs[k]? = some r) (ht : r.tasks[i]? = some t) (h : xH y.now t = true) : kE y k r (i + 1) = kE y k r i ++ [[r.id, (i : Int), t.try_]] := by
 unfold kE uY
 rw [range_succ, filter_append]
 simp [ht, h, jL, hr]
theorem sW {y : Yard} {k : Nat} {r : Run} {i : Nat} {t : Task} (ht : r.tasks[i]? = some t) (h : xH y.now t = false) : kE y k r (i + 1) = kE y k r i := by
 unfold kE uY
 rw [range_succ, filter_append]
 simp [ht, h]
theorem xG {y : Yard} {k : Nat} {r : Run} (hr : y.runs[k]? = some r) {i : Nat} (hi : i = r.tasks.length) : kE y k r i = (lC y (k + 1)).map (jL y) := by
 subst hi
 unfold kE
 simp [lC, hr]
theorem zA (n : Int) (r : Run) (m : Nat) : (uY n r m).length ≤ m := by
 unfold uY
 exact Nat.le_trans (length_filter_le _ _) (by simp)
theorem nP {y : Yard} (hy : YardIs y) : ∀ k, (lC y k).length ≤ 12 * k
 | 0 => by simp [lC]
 | k + 1 => by
  have ih := nP hy k
  simp only [lC, length_append]
  cases hr : y.runs[k]? with
  | none => simp; omega
  | some r =>
   have h1 := zA y.now r r.tasks.length
   have h2 := (hy.run k r hr).1.small
   simp only [length_map]; omega
theorem xF {y : Yard} (hy : YardIs y) (k : Nat) (r : Run) (i : Nat) : (kE y k r i).length ≤ 12 * k + i := by
 have s := nP hy k
 have t := zA y.now r i
 unfold kE
 simp only [length_map, length_append]; omega
theorem tZ {y : Yard} {p : Nat × Nat} : ∀ {k}, p ∈ lC y k → ∃ r t, y.runs[p.1]? = some r ∧ r.tasks[p.2]? = some t ∧ jL y p = [r.id, (p.2 : Int), t.try_]
 | 0, h => by simp [lC] at h
 | k + 1, h => by
  simp only [lC, mem_append] at h
  rcases h with h | h
  ·exact tZ h
  ·cases hr : y.runs[k]? with
   | none => rw [hr] at h; simp at h
   | some r =>
    rw [hr] at h
    simp only [mem_map] at h
    obtain ⟨i, hi, rfl⟩ := h
    unfold uY at hi
    rw [mem_filter] at hi
    cases ht : r.tasks[i]? with
    | none => rw [ht] at hi; simp at hi
    | some t => exact ⟨r, t, hr, ht, by simp [jL, hr, ht]⟩
def fH (n : Int) (y : Yard) : Yard := ⟨n, y.seq, y.shelf, y.runs⟩
def dF (y : Yard) (l : List (Nat × Nat)) : Yard := l.foldl (fun o p => mR o p.1 p.2) y
theorem turnF_now (n : Int) (y : Yard) (k i : Nat) : mR (fH n y) k i = fH n (mR y k i) := by
 unfold mR
 show (match y.runs[k]? with | none => _ | some r => _) = _
 cases y.runs[k]? with
 | none => rfl
 | some r =>
  simp only
  cases r.tasks[i]? with
  | none => rfl
  | some t => simp only; split <;> rfl
theorem yN (n : Int) : ∀ (l : List (Nat × Nat)) (y : Yard), dF (fH n y) l = fH n (dF y l)
 | [], y => rfl
 | p :: l, y => by
  show dF (mR (fH n y) p.1 p.2) l = fH n (dF (mR y p.1 p.2) l)
  rw [turnF_now, yN n l]
theorem lZ {y : Yard} {l : List (Nat × Nat)} {j : Nat} {p : Nat × Nat} (h : l[j]? = some p) : dF y (l.take (j + 1)) = mR (dF y (l.take j)) p.1 p.2 := by
 unfold dF
 rw [take_add_one, h]
 simp [foldl_append]
theorem turnL_zero (y : Yard) (l : List (Nat × Nat)) : dF y (l.take 0) = y := by simp [dF]
theorem YardIs.at {y : Yard} (hy : YardIs y) {n : Int} (h : 0 ≤ n ∧ n ≤ 999999980) : YardIs (fH n y) := ⟨h, hy.seq, hy.shelf, hy.runs, hy.each, hy.run⟩
theorem RI.list {y : Yard} (hy : YardIs y) {l : List (Nat × Nat)} (hl : ∀ p ∈ l, p.1 < y.runs.length) : ∀ j, RI y (dF y (l.take j)) j
 | 0 => by rw [turnL_zero]; exact RI.start hy
 | j + 1 => by
  have ih := RI.list hy hl j
  cases hp : l[j]? with
  | none =>
   have h1 := List.getElem?_eq_none_iff.1 hp
   rw [take_of_length_le (show l.length ≤ j + 1 by omega)]
   rw [take_of_length_le h1] at ih
   exact ih.mono aE
  | some p => rw [lZ hp]; exact ih.turn hy (hl p (mem_of_getElem? hp))
theorem aC4 {y : Yard} : ∀ p ∈ cB y, p.1 < y.runs.length := fun p hp => by
 obtain ⟨r, t, h1, _⟩ := tZ hp
 exact (gsi_.1 h1).1
noncomputable def aD3 (y : Yard) : Yard := dF (fH (y.now + 1) y) (cB y)
noncomputable def eS (y : Yard) : Yard × Int := if dB y = false then (y, 8) else if 999999980 < y.now + 1 then (y, 7) else (aD3 y, 0)
theorem aG1 {y : Yard} {j : Nat} (hj : j < (cB y).length) : ∃ k i r t, (cB y)[j]? = some (k, i) ∧ y.runs[k]? = some r ∧ r.tasks[i]? = some t ∧ ((cB y).map (jL y))[j]? = some [r.id, (i : Int), t.try_] := by
 obtain ⟨⟨k, i⟩, hp⟩ : ∃ p, (cB y)[j]? = some p := ⟨_, getElem?_eq_getElem hj⟩
 obtain ⟨r, t, s, a, b⟩ := tZ (mem_of_getElem? hp)
 exact ⟨k, i, r, t, hp, s, a, by rw [getElem?_map, hp, Option.map_some, b]⟩
end Go.Proofs.YtchnllpegfbleaaGreat
