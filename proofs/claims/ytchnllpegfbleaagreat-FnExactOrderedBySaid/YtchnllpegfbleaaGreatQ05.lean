/-
  Runs that are changed in place, of the program.
  A task that fails: what becomes of a right run. Theory alone.
  Rows handled by their block: cap, parts, copies, and what is appended of zeros.
  An entry put on a shelf, of both.
  Bytes of strings; xor; what stands for a number, and its sum.
  The shelf of an id, of both.
  What a yard gets on its shelf, of the program.
  Yards of which runs are turned: what is kept. Theory alone.
  Runs of which a task fails, yards that are turned, of the reference.
  Who holds a task, of both.
  Yards that are started again, of both.
  What a worker is given, and from which shelf. Theory alone.
  What is submitted, of both.
  A task that is done: what becomes of a right run. Theory alone.
-/
import Derived.Lib.AppendZerosOnto
import Derived.Lib.Overlaps
import Derived.Laws.IdiomCopy
import Derived.Laws.IdiomStrings
import Derived.Test.YtchnllpegfbleaaGreatQ01
import Derived.Test.YtchnllpegfbleaaGreatQ02
import Derived.Test.YtchnllpegfbleaaGreatQ03
import Derived.Test.YtchnllpegfbleaaGreatQ04
namespace Go.Proofs.YtchnllpegfbleaaGreat
set_option linter.unusedSimpArgs false
set_option linter.unusedVariables false
set_option maxRecDepth 100000
set_option maxHeartbeats 2000000
open Go.RowKit Go.Proofs.Tryz List
variable (w : World) {cs ds : List Value} {fp gp : List Nat}
def kD (t : Task) : Task := ⟨6, t.need, t.try_, 0⟩
def iT (but : Int) (k : Nat) (t : Task) : Task := if (k : Int) = but ∨ t.state = 4 then t else kD t
def jQ (ts : List Task) (but : Int) (k : Nat) : List Task := ts.mapIdx (fun j t => if j < k then iT but j t else t)
def iR (ts : List Task) (but : Int) : List Task := ts.mapIdx (fun j t => iT but j t)
theorem leaveTo_zero (ts : List Task) (but : Int) : jQ ts but 0 = ts := by
 apply ext_getElem?; intro i
 simp [jQ, getElem?_mapIdx]
theorem leaveTo_len (ts : List Task) (but : Int) (k : Nat) : (jQ ts but k).length = ts.length := by simp [jQ]
theorem xC (ts : List Task) (but : Int) : (iR ts but).length = ts.length := by simp [iR]
theorem leaveTo_at {ts : List Task} {but : Int} {k : Nat} {t : Task} (h : ts[k]? = some t) : (jQ ts but k)[k]? = some t := by
 simp [jQ, getElem?_mapIdx, h]
theorem pK {ts : List Task} {but : Int} {k : Nat} {t y : Task} (h : ts[k]? = some t) (hy : iT but k t = y) : (jQ ts but k).set k y = jQ ts but (k + 1) := by
 apply ext_getElem?; intro i
 obtain ⟨hl, rfl⟩ := gsi_.1 h
 simp only [jQ, getElem?_set, getElem?_mapIdx, length_mapIdx]
 by_cases e : k = i
 ·subst e; simp [hl, hy]
 rw [if_neg e]
 cases hi : ts[i]? with
 | none => rfl
 | some u =>
  have : (i < k) ↔ (i < k + 1) := by omega
  simp [this]
theorem leaveTo_all (ts : List Task) (but : Int) : jQ ts but ts.length = iR ts but := by
 apply ext_getElem?; intro i
 simp only [jQ, iR, getElem?_mapIdx]
 cases hi : ts[i]? with
 | none => rfl
 | some u => have := (gsi_.1 hi).1; simp [this]
theorem leaveIf_t {but : Int} {k : Nat} {t : Task} (h : ¬ (k : Int) = but) (h2 : ¬ t.state = 4) : iT but k t = kD t := by unfold iT; rw [if_neg (by simp [h, h2])]
theorem leaveIf_b {but : Int} {k : Nat} {t : Task} (h : (k : Int) = but) : iT but k t = t := by unfold iT; rw [if_pos (.inl h)]
theorem leaveIf_d {but : Int} {k : Nat} {t : Task} (h : t.state = 4) : iT but k t = t := by unfold iT; rw [if_pos (.inr h)]
def pL (r : Run) (but : Int) : Run := ⟨r.id, r.plan, r.state, iR r.tasks but⟩
def oH (r : Run) (i : Nat) (t : Task) : Run :=
 if t.try_ < r.plan.most then ⟨r.id, r.plan, r.state, r.tasks.set i ⟨2, t.need, t.try_, 0⟩⟩
 else ⟨r.id, r.plan, 3, iR (r.tasks.set i ⟨5, t.need, t.try_, 0⟩) i⟩
def cS (r : Run) (i : Nat) : Run := match r.tasks[i]? with | some t => oH r i t | none => r
theorem uC {r : Run} {i : Nat} {t : Task} (h : r.tasks[i]? = some t) : cS r i = oH r i t := by unfold cS; rw [h]
theorem leaveR_ok {r : Run} (h : r.ok) (b : Int) : (pL r b).ok := h

theorem aP9 {w W0 : World} {ty : TypeId} {rs : List Res} {b : Nat} {pre cs post : List Value} {r : Run} {fp : List Nat} (hst : St w W0 (Res.bx b (pre ++ cs ++ post) ty :: Res.own (.agg cs.toArray) r fp :: rs)) (but : Int) (hw : r.tasks.length ≤ 1048576) :
  Calls prog 177 #[.pointer (some ⟨b, pre.length, none⟩), I but] W0 fun e w' => ∃ (cs' : List Value) (fp' : List Nat), e = .returned (.tuple #[]) ∧ St w w' (Res.bx b (pre ++ cs' ++ post) ty :: Res.own (.agg cs'.toArray) (pL r but) fp' :: rs) := by
 refine bY func177 rfl ntmps177 aZ (wp_seq (aA ?_))
 have s := hst.f1
 have a := iZ s
 obtain ⟨c, d, g, j, n, p, q⟩ := a
 subst n
 refine rn q 6 Ag.nil.put.put [] [(10, I (r.tasks.length : Int)), (11, I 0)] [qp 2 rfl 7, ql (aM (q.get 1 rfl))] aD fun f7 z => (aB (wp_block (bF (fun (m : Nat) (f : Nat → Value) (W : World) => ∃ (k : Nat) (s : List Nat), k ≤ r.tasks.length ∧ m = r.tasks.length - k ∧ Ag [(0, .pointer (some ⟨b, pre.length, none⟩)), (1, I but), (10, I (r.tasks.length : Int)), (11, I (k : Int))] f ∧ St w W (Res.own (α := List Edge) c r.plan.edges g :: Res.own (α := List Task) d (jQ r.tasks but k) s :: Res.bx b (pre ++ [I r.id, I r.plan.prio, I r.plan.most, I r.plan.wait, I r.plan.tasks, c, I r.state, d] ++ post) ty :: rs)) (r.tasks.length - 0) ?_ ?_)))
 ·exact ⟨0, j, Nat.zero_le _, rfl, (z.to aD), (by rw [leaveTo_zero]; exact q)⟩
 intro g f10 n p
 obtain ⟨k, s, A, rfl, B, C⟩ := p
 have hll := leaveTo_len r.tasks but k
 refine wp_seq (aA (sg (bU (B.at 11) (B.at 10) (aB (wp_seq (aP rfl (fun c => ?_) (fun c => ?_)))))))
 ·refine wp_skip (wp_seq (wp_block (wp_seq (aA (sg (aH (B.at 11) (sg (aF (v := I (k : Int)) rfl (aB (wp_seq (aA (rn C 5 B.put.put.put [] [(17, d), (18, I (k : Int))] [qp 2 rfl 7] aD fun s D => ?_))))))))))))
  have a := dW (xs := r.tasks) (i := k) aE
  obtain ⟨t, ht⟩ := a
  have c := C.f1
  have a := St.lendx (α := Task) aZ c (x := t) (leaveTo_at ht)
  obtain ⟨E, g, F, d, post23, j, n, G, p, q⟩ := a
  have H := q.d1
  obtain ⟨J, s, K⟩ := p; have J : _ = [I t.state, I t.need, I t.try_, I t.until_] := J; subst J
  refine sg (aT gH (D.at 17) G (D.at 18) rfl (sg (aF (v := .pointer (some ⟨E, F.length, none⟩)) rfl (aB (wp_seq (aA ?_))))))
  rcases Decidable.em ((k : Int) = but) with s | s
  ·have c := gM s
   refine rn H 10 D.put.put [] [(29, .bool false)] [qk c] aD fun d g => (aB (kI (g.at 29) rfl (wp_skip (aA (sg (bO (g.at 11) rfl dL (sg (aH (v := I ((k : Int) + 1)) rfl (aB ?_)))))))))
   have j := H.cs0 (cs := [I t.state, I t.need, I t.try_, I t.until_]) (x := (⟨t.state, t.need, t.try_, t.until_⟩ : Task)) ⟨rfl, rfl, K⟩
   have a := St.give (α := Task) j.f2.f1.f2
   obtain ⟨d, n⟩ := a
   exact ⟨_, r.tasks.length - (k + 1), aE, rfl, k + 1, d, aE, rfl, (g.put.put.to aD), (by rw [← pK ht (leaveIf_b s)]; exact n.f2.f1.f2)⟩
  have c := gL s
  refine rn H 10 D.put.put [] [(29, .bool (!decide (t.state = 4)))] [qk c, qp 0 rfl 0, .o] aD fun j p => (aB (cQ (p.at 29) (fun q => ?_) (fun q => ?_)))
  ·refine wp_seq (aA (rn H 3 p [] [(32, .pointer (some ⟨E, F.length, none⟩))] [] aD fun d g => (sgn (bS (i := 0) (v := I 6) aD (g.at 32) rfl rfl rfl H rfl bH rfl ?_)))); intro c j
   refine aB (aA (rn j 3 g [] [(35, .pointer (some ⟨E, F.length + 3, none⟩))] [] aD fun n d => (sgn (bS (i := 3) (v := I 0) aD (d.at 35) rfl rfl rfl j rfl bH rfl ?_)))); intro z A
   refine aB (aA (sg (bO (d.at 11) rfl dL (sg (aH (v := I ((k : Int) + 1)) rfl (aB ?_))))))
   have c := A.cs0 (cs := [I 6, I t.need, I t.try_, I 0]) (x := (⟨6, t.need, t.try_, 0⟩ : Task)) ⟨rfl, rfl, fF⟩
   have a := St.give (α := Task) c.f2.f1.f2
   obtain ⟨g, j⟩ := a
   exact ⟨_, r.tasks.length - (k + 1), aE, rfl, k + 1, g, aE, rfl, (d.put.put.to aD), (by rw [← pK ht (leaveIf_t s q)]; exact j.f2.f1.f2)⟩
  refine wp_skip (aA (sg (bO (p.at 11) rfl dL (sg (aH (v := I ((k : Int) + 1)) rfl (aB ?_))))))
  have c := H.cs0 (cs := [I t.state, I t.need, I t.try_, I t.until_]) (x := (⟨t.state, t.need, t.try_, t.until_⟩ : Task)) ⟨rfl, rfl, K⟩
  have a := St.give (α := Task) c.f2.f1.f2
  obtain ⟨s, d⟩ := a
  exact ⟨_, r.tasks.length - (k + 1), aE, rfl, k + 1, s, aE, rfl, (p.put.put.to aD), (by rw [← pK ht (leaveIf_d q)]; exact d.f2.f1.f2)⟩
 refine wp_exit ?_
 repeat (first | refine iO ?_ | refine jN ?_ | refine iP rfl ?_)
 refine yK results177 ?_
 have hke : k = r.tasks.length := by omega
 rw [hke, leaveTo_all] at C
 have s := C.f1
 have a := eP (x := (pL r but)) s.f1 (leaveR_ok (by assumption) but)
 exact ⟨_, _, rfl, a.f1⟩
theorem aK1 {w W0 : World} {ty : TypeId} {rs : List Res} {b : Nat} {pre cs post : List Value} {r : Run} {fp : List Nat} (hst : St w W0 (Res.bx b (pre ++ cs ++ post) ty :: Res.own (.agg cs.toArray) r fp :: rs)) (i : Nat) {t : Task} (hti : r.tasks[i]? = some t) (hw : r.tasks.length ≤ 1048576) :
  Calls prog 112 #[.pointer (some ⟨b, pre.length, none⟩), I (i : Int)] W0 fun e w' => ∃ (cs' : List Value) (fp' : List Nat), e = .returned (.tuple #[]) ∧ St w w' (Res.bx b (pre ++ cs' ++ post) ty :: Res.own (.agg cs'.toArray) (cS r i) fp' :: rs) := by
 have hil := (gsi_.1 hti).1
 have hrok : r.ok := by obtain ⟨_, _, _, _, _, hok, _⟩ := (bB (hst.get 1 rfl) rfl); first | exact hok | skip
 refine bY func112 rfl ntmps112 aZ (wp_seq (aA ?_))
 have s := hst.f1
 have a := iZ s
 obtain ⟨c, d, g, j, n, p, q⟩ := a
 subst n
 refine rn q 5 Ag.nil.put.put [] [(8, d), (9, I (i : Int))] [qp 2 rfl 7] aD fun f7 z => ?_
 have a := St.lendx (α := Task) aZ q.f1 (x := t) hti
 obtain ⟨A, B, C, s, post9, c, D, E, g, F⟩ := a
 obtain ⟨G, j, n⟩ := g; have G : _ = [I t.state, I t.need, I t.try_, I t.until_] := G; subst G
 refine sg (aT gH (z.at 8) E (z.at 9) rfl (sg (aF (v := .pointer (some ⟨A, C.length, none⟩)) rfl (aB (wp_seq (aA (rn F.d1 3 z.put.put [] [(13, .pointer (some ⟨A, C.length + 3, none⟩))] [] aD fun s c => (sgn (bS (i := 3) (v := I 0) aD (c.at 13) rfl rfl rfl F.d1 rfl bH rfl ?_))))))))); intro d g
 refine aB (wp_seq (wp_seq (rd g c [] [(23, .bool (decide (t.try_ < r.plan.most)))] [qp 0 rfl 2, qp 3 rfl 2, .o] aD aD fun s j n q z => (aP (n.at 23) (fun H => ?_) (fun H => ?_)))))
 ·refine wp_seq (aA (rn q 3 n [] [(26, .pointer (some ⟨A, C.length, none⟩))] [] aD fun d B => (sgn (bS (i := 0) (v := I 2) aD (B.at 26) rfl rfl rfl q rfl bH rfl ?_)))); intro s c
  refine aB (wr (ret0 results112 ?_))
  have g := c.cs0 (cs := [I 2, I t.need, I t.try_, I 0]) (x := (⟨2, t.need, t.try_, 0⟩ : Task)) ⟨rfl, rfl, fF⟩
  have a := St.give (α := Task) g.f2.f1.f2
  obtain ⟨d, j⟩ := a
  have hfT : cS r i = (⟨r.id, r.plan, r.state, r.tasks.set i ⟨2, t.need, t.try_, 0⟩⟩ : Run) := by rw [uC hti]; unfold oH; rw [if_pos H]
  have s := eP (x := (⟨r.id, r.plan, r.state, r.tasks.set i ⟨2, t.need, t.try_, 0⟩⟩ : Run)) j.f1 (show Run.ok _ from by have hrk := hrok; simp only [Run.ok, Plan.ok, I64] at *; omega)
  try dsimp only at s
  have c := s.f1
  rw [hfT]
  exact ⟨_, _, rfl, c⟩
 refine wp_skip (wp_seq (aA (rn q 3 n [] [(29, .pointer (some ⟨A, C.length, none⟩))] [] aD fun d g => (sgn (bS (i := 0) (v := I 5) aD (g.at 29) rfl rfl rfl q rfl bH rfl ?_))))); intro s j
 refine aB (wp_seq (aA (sg (aH (g.at 0) (sg (aH (g.at 1) ?_))))))
 have c := j.cs0 (cs := [I 5, I t.need, I t.try_, I 0]) (x := (⟨5, t.need, t.try_, 0⟩ : Task)) ⟨rfl, rfl, fF⟩
 have a := St.give (α := Task) c.f2.f1.f2
 obtain ⟨s, d⟩ := a
 have n := eP (x := (⟨r.id, ⟨r.plan.prio, r.plan.most, r.plan.wait, r.plan.tasks, r.plan.edges⟩, r.state, (r.tasks).set i (⟨5, t.need, t.try_, 0⟩ : Task)⟩ : Run)) d.f1 p
 try dsimp only at n
 have j := n.f1
 refine sg (bN func177 rfl rfl rfl ((aP9 j (i : Int) (by simp only [length_set]; omega)).mono ?_)); rintro _ s ⟨c, q, rfl, z⟩; refine ⟨_, rfl, ?_⟩
 refine aB (aA (lw g.put.put.put [(0, .pointer (some ⟨b, pre.length, none⟩))] aD fun d => (rn z 3 d [] [(35, .pointer (some ⟨b, pre.length + 6, none⟩))] [] aD fun j J => ?_)))
 have a := iZ z.f1
 obtain ⟨K, L, n, s, M, c, N⟩ := a
 subst M
 refine sgn (bS (i := 6) (v := I 3) aD (J.at 35) rfl rfl rfl N.f2 rfl bH rfl ?_); intro s a
 refine aB ?_
 repeat (first | refine iO ?_ | refine jN ?_ | refine iP rfl ?_)
 refine yK results112 ?_
 have hfT : cS r i = (⟨r.id, r.plan, 3, iR (r.tasks.set i ⟨5, t.need, t.try_, 0⟩) i⟩ : Run) := by rw [uC hti]; unfold oH; rw [if_neg H]
 have s := eP (x := (⟨r.id, r.plan, 3, iR (r.tasks.set i ⟨5, t.need, t.try_, 0⟩) i⟩ : Run)) a.f2.f2 (show Run.ok _ from by have hrk := hrok; simp only [Run.ok, Plan.ok, I64] at *; omega)
 try dsimp only at s
 have c := s.f1
 rw [hfT]
 exact ⟨_, _, rfl, c⟩
theorem jB (ts : List Task) (s : Int) : cW ts s = (ts.countP (fun t => decide (t.state = s)) : Nat) := by unfold cW; rw [countP_eq_length_filter]
theorem xY {ts : List Task} {s : Int} {t : Task} (h : t ∈ ts) (hs : t.state = s) : 0 < cW ts s := by
 rw [jB]
 have := countP_pos_iff (p := fun t : Task => decide (t.state = s)) (l := ts) |>.2 ⟨t, h, by simpa using hs⟩
 omega
theorem uJ {ts : List Task} {s : Int} (h : ∀ t ∈ ts, ¬ t.state = s) : cW ts s = 0 := by
 rw [jB, countP_eq_zero.2 (by intro t ht; simpa using h t ht)]; rfl
theorem zV {ts : List Task} {s : Int} (h : cW ts s = 0) : ∀ t ∈ ts, ¬ t.state = s := fun t ht hs => by have := xY ht hs; omega
theorem aD1 {ts : List Task} {s : Int} {t : Task} (h : t ∈ ts) (hs : ¬ t.state = s) : ¬ cW ts s = ts.length := by
 rw [jB]
 intro he
 have := countP_eq_length (p := fun t : Task => decide (t.state = s)) (l := ts) |>.1 aE t h
 exact hs (by simpa using this)
theorem cntI_map {ts : List Task} {f : Task → Task} {s : Int} (h : ∀ t ∈ ts, ((f t).state = s ↔ t.state = s)) : cW (ts.map f) s = cW ts s := by
 rw [jB, jB, countP_map]
 congr 1
 apply countP_congr
 intro t ht
 simpa using h t ht
theorem xX {ts : List Task} {i : Nat} (h : i < ts.length) (x : Task) (s : Int) : cW (ts.set i x) s = cW ts s - (if ts[i].state = s then 1 else 0) + (if x.state = s then 1 else 0) := by
 rw [jB, jB, countP_set h]
 have hpos : ts[i].state = s → 0 < ts.countP (fun t => decide (t.state = s)) := fun e => countP_pos_iff.2 ⟨ts[i], getElem_mem h, by simpa using e⟩
 simp only [decide_eq_true_eq]
 by_cases h1 : ts[i].state = s
 ·have := hpos h1
  rw [if_pos h1, if_pos h1]
  by_cases h2 : x.state = s
  ·rw [if_pos h2, if_pos h2]; omega
  rw [if_neg h2, if_neg h2]; omega
 rw [if_neg h1, if_neg h1]
 by_cases h2 : x.state = s
 ·rw [if_pos h2, if_pos h2]; omega
 rw [if_neg h2, if_neg h2]; omega
structure RunIs (r : Run) : Prop where
 id : 1 ≤ r.id ∧ r.id ≤ 9999
 plan : bM r.plan = 0
 len : (r.tasks.length : Int) = r.plan.tasks
 task : ∀ k, k < r.tasks.length → lM r k
 state : r.state = eN r.tasks
 ne : ¬ r.state = 0
theorem runIs {r : Run} : gI r = true ↔ RunIs r := by
 unfold gI
 rw [pB_iff]
 exact ⟨fun ⟨a, b, c, d, e, f⟩ => ⟨a, b, c, d, e, f⟩, fun h => ⟨h.id, h.plan, h.len, h.task, h.state, h.ne⟩⟩
theorem RunIs.live {r : Run} (h : RunIs r) {t : Task} (ht : t ∈ r.tasks) (h3 : t.state = 3) : r.state = 1 ∧ cW r.tasks 5 = 0 ∧ cW r.tasks 6 = 0 := by
 have hs := h.state
 have hn := h.ne
 have a := xY ht h3
 have b := aD1 (s := 4) ht aE
 have c := eE r.tasks 1
 have d := eE r.tasks 2
 rw [hs] at hn
 rw [hs]
 unfold eN at hn ⊢
 rw [if_neg b, if_neg aE, if_neg aE] at hn ⊢
 by_cases h1 : cW r.tasks 5 = 0 ∧ cW r.tasks 6 = 0
 ·rw [if_pos h1]; exact ⟨rfl, h1.1, h1.2⟩
 rw [if_neg h1] at hn; exact absurd rfl hn
theorem RunIs.none5 {r : Run} (h : RunIs r) {t : Task} (ht : t ∈ r.tasks) (h3 : t.state = 3) : ∀ u ∈ r.tasks, ¬ u.state = 5 ∧ ¬ u.state = 6 := fun u hu => ⟨zV (h.live ht h3).2.1 u hu, zV (h.live ht h3).2.2 u hu⟩
def gK (t : Task) : Task := if t.state = 4 ∨ t.state = 5 then t else kD t
def fP (ts : List Task) : List Task := ts.map gK
theorem xB {ts : List Task} {i : Nat} {x : Task} (hi : i < ts.length) (hx : x.state = 5) (h : ∀ u ∈ ts, ¬ u.state = 5) : iR (ts.set i x) (i : Int) = fP (ts.set i x) := by
 apply ext_getElem?
 intro k
 unfold iR fP
 rw [getElem?_mapIdx, getElem?_map, getElem?_set]
 by_cases e : i = k
 ·subst e
  simp [hi, iT, gK, hx]
 rw [if_neg e]
 cases hk : ts[k]? with
 | none => rfl
 | some u =>
  have s := h u (mem_of_getElem? hk)
  have e' : ¬ (k : Int) = (i : Int) := by omega
  simp [iT, gK, s, e']
def xR (r : Run) (i : Nat) : Run := match r.tasks[i]? with
 | some t => if t.try_ < r.plan.most then ⟨r.id, r.plan, r.state, r.tasks.set i ⟨2, t.need, t.try_, 0⟩⟩ else ⟨r.id, r.plan, 3, fP (r.tasks.set i ⟨5, t.need, t.try_, 0⟩)⟩
 | none => r
theorem failsS_eq {r : Run} (h : RunIs r) {i : Nat} {t : Task} (ht : r.tasks[i]? = some t) (h3 : t.state = 3) : xR r i = cS r i := by
 unfold xR cS
 rw [ht]
 simp only [oH]
 have hm := mem_of_getElem? ht
 rw [xB (gsi_.1 ht).1 rfl (fun u hu => (h.none5 hm h3 u hu).1)]
theorem isDone_of {r r' : Run} (h : ∀ k : Nat, (r'.tasks[k]?).map (fun t => decide (t.state = 4)) = (r.tasks[k]?).map (fun t => decide (t.state = 4))) (x : Int) : oE r' x = oE r x := by
 unfold oE
 have := h x.toNat
 cases h1 : r'.tasks[x.toNat]? <;> cases h2 : r.tasks[x.toNat]? <;> simp [h1, h2] at this ⊢
 exact this
theorem yY {r r' : Run} (hp : r'.plan = r.plan) (h : ∀ k : Nat, (r'.tasks[k]?).map (fun t => decide (t.state = 4)) = (r.tasks[k]?).map (fun t => decide (t.state = 4))) (x : Int) : jU r' x = jU r x := by
 unfold jU fL
 rw [hp]
 congr 2
 apply filter_congr
 intro b _
 rw [isDone_of h]
theorem taskOkT_left {r r' : Run} {need : Int} {t : Task} (hp : r'.plan = r.plan) (h : iH r need t) : iH r' need (kD t) := by
 obtain ⟨s, a, b, _⟩ := h
 refine ⟨⟨by simp [kD], by simp [kD]⟩, a, by rw [hp]; exact b, ?_, ?_, ?_, ?_, ?_⟩ <;> simp [kD]
theorem rY {r r' : Run} {need : Int} {t : Task} (hp : r'.plan = r.plan) (h : iH r need t) : iH r' need t := by
 unfold iH at h ⊢
 rw [hp]; exact h
theorem RunIs.fails {r : Run} (h : RunIs r) {i : Nat} {t : Task} (ht : r.tasks[i]? = some t) (h3 : t.state = 3) : RunIs (cS r i) := by
 obtain ⟨hi, rfl⟩ := gsi_.1 ht
 have hm : r.tasks[i] ∈ r.tasks := getElem_mem hi
 have hlive := h.live hm h3
 have a := h.none5 hm h3
 have htk := h.task i hi hi
 obtain ⟨b, c, d, g, n, p, q, z⟩ := htk
 have t8' := z (.inl h3)
 rw [uC ht]
 unfold oH
 split
 ·next hlt =>
  refine ⟨h.id, h.plan, by show ((r.tasks.set i _).length : Int) = _; rw [length_set]; exact h.len, ?_, ?_, by show ¬ r.state = 0; omega⟩
  ·intro k hk hk'
   have A : k < r.tasks.length := by simpa using hk
   rw [yY (r := r) (r' := ⟨r.id, r.plan, r.state, r.tasks.set i ⟨2, r.tasks[i].need, r.tasks[i].try_, 0⟩⟩) rfl (fun j => by
    show ((r.tasks.set i _)[j]?).map _ = _
    rw [getElem?_set]
    by_cases e : i = j
    ·subst e; simp [hi, h3]
    rw [if_neg e])]
   show iH _ _ ((r.tasks.set i _)[k]'hk')
   rw [getElem_set]
   split
   ·next e =>
    subst e
    refine ⟨⟨by show (1 : Int) ≤ 2; omega, by show (2 : Int) ≤ 6; omega⟩, c, d, ?_, fun _ => rfl, ?_, fun _ => ⟨t8'.1, hlt⟩, ?_⟩
    ·intro e; exact absurd (show (2 : Int) = 3 from e) aE
    ·intro e; exact absurd (show (2 : Int) = 1 from e) aE
    rintro (e | e | e)
    ·exact absurd (show (2 : Int) = 3 from e) aE
    ·exact absurd (show (2 : Int) = 4 from e) aE
    exact absurd (show (2 : Int) = 5 from e) aE
   exact rY rfl (h.task k A A)
  show r.state = eN (r.tasks.set i _)
  have hmem : (⟨2, r.tasks[i].need, r.tasks[i].try_, 0⟩ : Task) ∈ r.tasks.set i ⟨2, r.tasks[i].need, r.tasks[i].try_, 0⟩ := mem_set hi _
  have B := aD1 (s := 4) hmem (by show ¬ (2 : Int) = 4; omega)
  have C : cW (r.tasks.set i ⟨2, r.tasks[i].need, r.tasks[i].try_, 0⟩) 5 = 0 := by rw [xX hi, h3, hlive.2.1]; rfl
  have b : cW (r.tasks.set i ⟨2, r.tasks[i].need, r.tasks[i].try_, 0⟩) 6 = 0 := by rw [xX hi, h3, hlive.2.2]; rfl
  unfold eN
  rw [if_neg B, if_neg (by rw [C]; omega), if_neg (by rw [b]; omega), if_pos ⟨C, b⟩]
  exact hlive.1
 next hge =>
 rw [xB hi rfl (fun u hu => (a u hu).1)]
 have hset : ∀ j, (fP (r.tasks.set i ⟨5, r.tasks[i].need, r.tasks[i].try_, 0⟩))[j]? = (if i = j then some ⟨5, r.tasks[i].need, r.tasks[i].try_, 0⟩ else (r.tasks[j]?).map gK) := by
  intro j
  unfold fP
  rw [getElem?_map, getElem?_set]
  by_cases e : i = j
  ·subst e; simp [hi, gK]
  rw [if_neg e, if_neg e]
 have hlen : (fP (r.tasks.set i ⟨5, r.tasks[i].need, r.tasks[i].try_, 0⟩)).length = r.tasks.length := by unfold fP; simp
 refine ⟨h.id, h.plan, by show ((fP _).length : Int) = _; rw [hlen]; exact h.len, ?_, ?_, by show ¬ (3 : Int) = 0; omega⟩
 ·intro k hk hk'
  have A : k < r.tasks.length := by rw [← hlen]; exact hk
  rw [yY (r := r) (r' := ⟨r.id, r.plan, 3, fP (r.tasks.set i ⟨5, r.tasks[i].need, r.tasks[i].try_, 0⟩)⟩) rfl (fun j => by
   show ((fP _)[j]?).map _ = _
   rw [hset j]
   by_cases e : i = j
   ·subst e; simp [hi, h3]
   rw [if_neg e]
   cases hj : r.tasks[j]? with
   | none => rfl
   | some u =>
    simp only [Option.map_some, gK]
    split
    ·rfl
    next hne => simp [kD]; intro a; exact hne (.inl a))]
  have hg : (fP (r.tasks.set i ⟨5, r.tasks[i].need, r.tasks[i].try_, 0⟩))[k]? = some ((fP (r.tasks.set i ⟨5, r.tasks[i].need, r.tasks[i].try_, 0⟩))[k]'hk') := getElem?_eq_getElem hk'
  rw [hset k] at hg
  show iH _ _ ((fP (r.tasks.set i _))[k]'hk')
  by_cases e : i = k
  ·rw [if_pos e] at hg
   have := Option.some.inj hg
   rw [← this]
   subst e
   refine ⟨⟨by show (1 : Int) ≤ 5; omega, by show (5 : Int) ≤ 6; omega⟩, c, d, ?_, fun _ => rfl, ?_, ?_, fun _ => t8'⟩
   ·intro e; exact absurd (show (5 : Int) = 3 from e) aE
   ·intro e; exact absurd (show (5 : Int) = 1 from e) aE
   intro e; exact absurd (show (5 : Int) = 2 from e) aE
  rw [if_neg e, getElem?_eq_getElem A, Option.map_some] at hg
  have := Option.some.inj hg
  rw [← this]
  unfold gK
  split
  ·exact rY rfl (h.task k A A)
  exact taskOkT_left rfl (h.task k A A)
 show (3 : Int) = eN (fP _)
 have hst : ∀ s : Int, s = 1 ∨ s = 2 ∨ s = 3 → cW (fP (r.tasks.set i ⟨5, r.tasks[i].need, r.tasks[i].try_, 0⟩)) s = 0 := by
  intro s hs
  apply uJ
  intro u hu e
  unfold fP at hu
  obtain ⟨v, _, rfl⟩ := mem_map.1 hu
  unfold gK at e
  split at e
  ·next hc => omega
  have : (6 : Int) = s := e
  omega
 have C : cW (fP (r.tasks.set i ⟨5, r.tasks[i].need, r.tasks[i].try_, 0⟩)) 5 = 1 := by
  unfold fP
  rw [cntI_map (fun u _ => by
   unfold gK
   split
   ·exact Iff.rfl
   next hc =>
   simp only [not_or] at hc
   exact ⟨fun e => absurd (show (6 : Int) = 5 from e) aE, fun e => absurd e hc.2⟩), xX hi, h3, hlive.2.1]
  rfl
 have B : ¬ cW (fP (r.tasks.set i ⟨5, r.tasks[i].need, r.tasks[i].try_, 0⟩)) 4 = (fP (r.tasks.set i ⟨5, r.tasks[i].need, r.tasks[i].try_, 0⟩)).length := by
  apply aD1 (t := ⟨5, r.tasks[i].need, r.tasks[i].try_, 0⟩)
  ·exact mem_of_getElem? (i := i) (by rw [hset i, if_pos rfl])
  show ¬ (5 : Int) = 4
  omega
 unfold eN
 rw [if_neg B, if_pos ⟨C, by rw [hst 1 (.inl rfl), hst 2 (.inr (.inl rfl)), hst 3 (.inr (.inr rfl))]; rfl⟩]
theorem oI (r : Run) (i : Nat) : (cS r i).id = r.id ∧ (cS r i).plan = r.plan ∧ (cS r i).tasks.length = r.tasks.length ∧ ∀ (j : Nat) (t : Task), r.tasks[j]? = some t → ∃ t2, (cS r i).tasks[j]? = some t2 ∧ t2.try_ = t.try_ := by
 unfold cS
 cases hi : r.tasks[i]? with
 | none => exact ⟨rfl, rfl, rfl, fun j t h => ⟨t, h, rfl⟩⟩
 | some u =>
  obtain ⟨hl, rfl⟩ := gsi_.1 hi
  simp only [oH]
  split
  ·refine ⟨rfl, rfl, by simp, fun j t h => ?_⟩
   show ∃ t2, (r.tasks.set i _)[j]? = some t2 ∧ _
   rw [getElem?_set]
   by_cases e : i = j
   ·subst e
    rw [h] at hi
    rw [if_pos rfl, if_pos hl]
    exact ⟨_, rfl, by have := Option.some.inj hi; rw [this]⟩
   rw [if_neg e]; exact ⟨t, h, rfl⟩
  refine ⟨rfl, rfl, by simp [xC], fun j t h => ?_⟩
  show ∃ t2, (iR (r.tasks.set i _) _)[j]? = some t2 ∧ _
  unfold iR
  rw [getElem?_mapIdx, getElem?_set]
  have hli : ∀ (b : Int) (k : Nat) (x : Task), (iT b k x).try_ = x.try_ := by intro b k x; unfold iT; split <;> rfl
  by_cases e : i = j
  ·subst e
   rw [h] at hi
   rw [if_pos rfl, if_pos hl]
   exact ⟨_, rfl, by rw [hli]; have := Option.some.inj hi; rw [this]⟩
  rw [if_neg e, h]; exact ⟨_, rfl, hli _ _ _⟩
theorem qD : ∀ (C vs : List Value) (o : Nat), o + vs.length ≤ C.length → cC C o vs = C.take o ++ vs ++ C.drop (o + vs.length)
 | C, [], 0, h => by cases C <;> simp [cC]
 | c :: C, v :: vs, 0, h => by
  have := qD C vs 0 (by simp at h ⊢; omega)
  simp [cC] at this ⊢
  rw [this]
 | c :: C, vs, o + 1, h => by
  have := qD C vs o (by simp at h ⊢; omega)
  rw [show o + 1 + vs.length = (o + vs.length) + 1 by omega]
  simp [cC] at this ⊢
  rw [this]
 | [], v :: vs, o, h => by simp at h
 | [], [], o + 1, h => by simp at h
theorem tW {b o l h c s : Nat} (hne : l < c) : sliced (some ⟨b, o, none⟩) l h c s = .slice (some ⟨b, o + l * s, none⟩) (h - l) (c - l) := by
 have : ¬ c = l := by omega
 simp [sliced, this, Addr.add]
section
variable {P : Program} {n : Nat} {f : Nat → Value} {w0 W : World} {rs : List Res} {Q : Exit → Act → World → Prop} {d : Option Tmp} {ty : TypeId} {pos : String} {af : Array Go.Edge} {g : Option (Nat × Bool)} {K : Value → World → Prop} {α : Type} [Shape α]
theorem nF {t t' : TypeId} {x y : Operand} {b o m c l : Nat} {e : Int} (hT : SlOk P t t' α) (hx : ev n f x = .slice (some ⟨b, o, none⟩) m c) (hy : ev n f y = I e) (he : e = l) (hl : l ≤ m) (hne : l < c) (k : K (.slice (some ⟨b, o + l * Shape.size α, none⟩) (m - l) (c - l)) W) : Stp P n ⟨d, .slice t x (some y) none none, ty, pos, af, g⟩ f W Q K := by
 subst he
 have hel : P.elem t = t' := by simp [Program.elem, hT.desc]
 have hu : P.underlying t = some (.slice (P.elem t)) := by rw [hel]; exact hT.desc
 refine Stp.run (v := sliced (some ⟨b, o, none⟩) l m c (Shape.size α)) ?_ (by rw [tW hne]; exact k)
 simp only [execOp, hx, hy, Sem.run_bind, Option.map_none, Option.map_some]
 rw [run_sliceAt_slice (h := hu), run_slice_l (ht := hu) (h0 := by omega) (h1 := by omega), hel, jK hT.size]
 simp
theorem rI {t t' : TypeId} {x y : Operand} {b o m c h : Nat} {e : Int} (hT : SlOk P t t' α) (hx : ev n f x = .slice (some ⟨b, o, none⟩) m c) (hy : ev n f y = I e) (he : e = h) (hl : h ≤ c) (hc : 0 < c) (k : K (.slice (some ⟨b, o, none⟩) h c) W) : Stp P n ⟨d, .slice t x none (some y) none, ty, pos, af, g⟩ f W Q K := by
 subst he
 have hel : P.elem t = t' := by simp [Program.elem, hT.desc]
 have hu : P.underlying t = some (.slice (P.elem t)) := by rw [hel]; exact hT.desc
 refine Stp.run (v := sliced (some ⟨b, o, none⟩) 0 h c (Shape.size α)) ?_ (by rw [tW hc, Nat.zero_mul]; exact k)
 simp only [execOp, hx, hy, Sem.run_bind, Option.map_none, Option.map_some]
 rw [run_sliceAt_slice (h := hu), run_slice_h (ht := hu) (h0 := by omega) (h2 := by omega), hel, jK hT.size]
 simp
theorem stp_xcap {t t' : TypeId} {x : Operand} {ao : Option Addr} {m c : Nat} (hT : SlOk P t t' α) (hx : ev n f x = .slice ao m c) (k : K (I (c : Int)) W) : Stp P n ⟨d, .call { callee := .builtin .cap, args := #[x], argTypes := #[t] }, ty, pos, af, g⟩ f W Q K := by
 refine Stp.run (v := I (c : Int)) ?_ k
 have hr : (Builtin.cap_ #[t] ty #[.slice ao m c]).run P W = .ok (I (c : Int)) W := by
  simp [Builtin.cap_, run_underlying hT.desc, goInt]
 simp [execOp, hx, resolve, invoke, builtin, Sem.run_bind, hr]
theorem run_copyK (dT sT ty elem : TypeId) (b o dLen dCap sz : Nat) (a : Addr) (sLen sCap : Nat) (cs : List Value)
  (hu : P.underlying dT = some (.slice elem)) (hs : (P.info? elem).map (·.size) = some sz) (hn : cs.length = Nat.min sLen dLen * sz)
  (hsrc : ∀ j v, cs[j]? = some v → w.cell? (a.add j) = some v) (hc : ∀ j, j < cs.length → (w.cell? ⟨b, o + j, none⟩).isSome = true) (hf : ∀ j, j < cs.length → w.frozen? ⟨b, o + j, none⟩ = false) (h1 : ∀ v ∈ cs, v.oneCell' = true) :
  (Builtin.copy_ #[dT, sT] ty #[.slice (some ⟨b, o, none⟩) dLen dCap, .slice (some a) sLen sCap]).run P w = .ok (goInt (Nat.min sLen dLen)) (w.setCells b o cs) := by
 have hl := run_loadCells_list (P := P) w a cs hsrc
 have hst := run_storeCells_cells (P := P) b o cs 0 w (by simpa using hc) (by simpa using hf) h1
 rw [hn] at hl
 cases hq : P.info? elem with
 | none => simp [hq] at hs
 | some i =>
  have hi : i.size = sz := by simpa [hq] using hs
  simp [Builtin.copy_, run_underlying hu, Builtin.lenOf, Builtin.firstCells, sizeOf, typeInfo, hq, hi, hl, hst]
theorem qB {t e : TypeId} {x y : Operand} {b o dl dc sl sc : Nat} {a : Addr} {C cs : List Value} (hT : SlOk P t e α) (hx : ev n f x = .slice (some ⟨b, o, none⟩) dl dc) (hy : ev n f y = .slice (some a) sl sc) (hn : cs.length = Nat.min sl dl * Shape.size α)
  (hsrc : ∀ j v, cs[j]? = some v → W.cell? (a.add j) = some v) (h1 : ∀ v ∈ cs, v.oneCell' = true) (hst : St w0 W (Res.bx b C e :: rs)) (hle : o + cs.length ≤ C.length) (k : ∀ v W', St w0 W' (Res.bx b (cC C o cs) e :: rs) → K v W') :
  Stp P n ⟨d, .call { callee := .builtin .copy, args := #[x, y], argTypes := #[t, t] }, ty, pos, af, g⟩ f W Q K := by
 have hB : W.heap[b]? = some (.cells C.toArray e (0, 0)) := hst.get 0 rfl
 have hr := run_copyK (P := P) W t t ty e b o dl dc _ a sl sc cs hT.desc hT.size hn hsrc (fun j hj => by simp [World.cell?, hB]; omega) (fun j hj => by simp [World.frozen?, hB]) h1
 refine Stp.run (v := goInt (Nat.min sl dl)) (W' := W.setCells b o cs) ?_ (k _ _ (hst.store o cs hle))
 simp only [execOp, resolve, invoke, builtin, Sem.run_bind, Sem.run_pure, Result.andThen_ok, map_toArray, map_cons, map_nil, hx, hy, hr]
theorem stp_appz {t tn e : TypeId} {bytes : Nat} {x y : Operand} {b i c k0 n1 : Nat} {e1 : Int} {C : List Value} (hT : ApOk P t e α bytes) (htn : P.underlying tn = some (.int .i64)) (hx : ev n f x = .slice (some ⟨b, 0, none⟩) i c) (hy : ev n f y = I e1) (he1 : e1 = k0) (hn1 : i + k0 = n1) (hst : St w0 W (Res.bx b C e :: rs))
  (hC : i * Shape.size α ≤ C.length) (h0 : 0 < k0) (hg : c < n1) (h63 : n1 ≤ maxLen) (hby : n1 * bytes ≤ 140737488355328)
  (k : ∀ b2 cap Z W', n1 ≤ cap → cap ≤ maxLen → Z.length = (cap - i) * Shape.size α → Below W.heap.size W W' → St w0 W' (Res.bx b2 (C.take (i * Shape.size α) ++ Z) e :: Res.bx b C e :: rs) → K (.slice (some ⟨b2, 0, none⟩) n1 cap) W') :
  Stp P n ⟨d, .call { callee := .builtin .append, args := #[x, y], argTypes := #[t, tn] }, ty, pos, af, g⟩ f W Q K := by
 subst he1 hn1
 obtain ⟨i0, z, hi, hz, s, a, p⟩ := hT.info
 have hB : W.heap[b]? = some (.cells C.toArray e (0, 0)) := hst.get 0 rfl
 have hpos := hT.pos
 have hold : (Builtin.firstCells i0.size i (.slice (some ⟨b, 0, none⟩) i c)).run P W.drew = .ok (C.take (i * Shape.size α)).toArray W.drew := by
  rw [s]
  exact run_firstCells_some W.drew (Shape.size α) i ⟨b, 0, none⟩ i c (C.take (i * Shape.size α)) (by rw [length_take]; omega) (fun j v hj => by
   rw [getElem?_take] at hj
   split at hj
   ·rw [Addr.add_mid]; exact bQ (W := W.drew) hB j v hj
   cases hj)
 have hfit : Builtin.nextslicecap (i + k0) c * i0.bytes ≤ 281474976710656 := by rw [a]; exact growslice_fits hg hby
 have s : k0 * i0.bytes ≤ 281474976710656 := by
  rw [a]
  have : k0 * bytes ≤ (i + k0) * bytes := Nat.mul_le_mul_right _ aE
  omega
 have h := Lib.run_append_grow_zeros (P := P) W t tn ty e i0 z .i64 .i64 hT.desc htn hi hz (some ⟨b, 0, none⟩) i c _ hold k0 h0 aE hg (by unfold maxLen at h63; omega) s hfit
 have hge := grownCap_ge W (i + k0) c e
 have hcm := grownCap_le_maxLen W (i + k0) c e h63
 refine Stp.run (v := .slice (some ⟨W.heap.size, 0, none⟩) (i + k0) (grownCap W (i + k0) c e)) (W' := W.drew.alloc (.cells ((C.take (i * Shape.size α)).toArray ++ Builtin.zeroCells z.cells k0 ++ Builtin.zeroCells z.cells (grownCap W (i + k0) c e - (i + k0))) e))
  (by simp only [execOp, resolve, invoke, builtin, Sem.run_bind, Sem.run_pure, Result.andThen_ok, map_toArray, map_cons, map_nil, hx, hy, h]) ?_
 have hbd : Below W.heap.size W W.drew := (Below.refl _ _).drew
 refine k W.heap.size (grownCap W (i + k0) c e) ((Builtin.zeroCells z.cells k0).toList ++ (Builtin.zeroCells z.cells (grownCap W (i + k0) c e - (i + k0))).toList) _ hge hcm ?_ ⟨rfl, rfl, rfl, by simp, fun j hj => Below.heap_alloc W.drew _ j hj⟩ ?_
 ·rw [length_append, Array.length_toList, Array.length_toList, size_zeroCells, size_zeroCells, p, ← Nat.add_mul]
  congr 1; omega
 have s : St w0 W.drew (Res.bx b C e :: rs) := by simpa using hst.call (St.of_below hbd)
 have a := s.alloc (C.take (i * Shape.size α) ++ ((Builtin.zeroCells z.cells k0).toList ++ (Builtin.zeroCells z.cells (grownCap W (i + k0) c e - (i + k0))).toList)) e
 have p : (C.take (i * Shape.size α) ++ ((Builtin.zeroCells z.cells k0).toList ++ (Builtin.zeroCells z.cells (grownCap W (i + k0) c e - (i + k0))).toList)).toArray = (C.take (i * Shape.size α)).toArray ++ Builtin.zeroCells z.cells k0 ++ Builtin.zeroCells z.cells (grownCap W (i + k0) c e - (i + k0)) := by
  apply Array.toList_inj.1
  simp
 rw [p] at a
 exact a
theorem stp_callx {F : FuncId} {x y : Operand} {v u r : Value} {ats : Array TypeId} (hx : ev n f x = v) (hy : ev n f y = u) (h : (callFunc F #[v, u]).run P W = .ok (.value r) W) (k : K r W) : Stp P n ⟨d, .call { callee := .value (.func F), args := #[x, y], argTypes := ats }, ty, pos, af, g⟩ f W Q K :=
 Stp.run (v := r) (by
  have he : ev n f (.func F) = .func (.func F) #[] #[] := rfl
  simp only [execOp, resolve, invoke, Deferred.ofValue, he, Array.append_empty, Array.empty_append, Sem.run_bind, Sem.run_pure, Result.andThen_ok, map_toArray, map_cons, map_nil, hx, hy, h]) k
end
theorem St.rowOpen {α : Type} [Shape α] {w0 W : World} {rs : List Res} {e : TypeId} {v : Value} {xs : List α} (h : St w0 W (Res.row e v xs [] :: rs)) (hne : 0 < xs.length) :
  ∃ b cap C, v = .slice (some ⟨b, 0, none⟩) xs.length cap ∧ xs.length ≤ cap ∧ cap ≤ maxLen ∧ C.length = cap * Shape.size α ∧ Elems W (C.take (xs.length * Shape.size α)) xs [] ∧ St w0 W (Res.bx b C e :: rs) := by
 obtain ⟨⟨cells, ho, he⟩, _⟩ := h.get 0 rfl
 rcases ho.2 with ⟨rfl, s⟩ | ⟨g, cap, cur, rfl, _, hg, t, a, c, d⟩
 ·omega
 refine ⟨g, cap, cur.toList, rfl, t, a, by rw [Array.length_toList]; exact c, by rw [d]; exact he, ?_⟩
 exact h.turn (r' := Res.bx g cur.toList e) rfl rfl rfl (Nat.le_refl _) (fun _ _ _ => rfl) (by show W.heap[g]? = some (.cells cur.toList.toArray e (0, 0)); simpa using hg) (by simp [Res.bx]) (fun b hb => .inl (by simpa [Res.row, Res.bx, Value.ownBlock] using hb))
theorem St.rowShut {α : Type} [Shape α] {w0 W : World} {rs : List Res} {e : TypeId} {b cap m : Nat} {C : List Value} {xs : List α} (h : St w0 W (Res.bx b C e :: rs)) (hm : xs.length = m) (h1 : m ≤ cap) (h2 : cap ≤ maxLen) (h3 : C.length = cap * Shape.size α) (h4 : Elems W (C.take (m * Shape.size α)) xs []) :
  St w0 W (Res.row e (.slice (some ⟨b, 0, none⟩) m cap) xs [] :: rs) := by
 subst hm
 have hB : W.heap[b]? = some (.cells C.toArray e (0, 0)) := h.get 0 rfl
 refine h.turn (r' := Res.row e _ xs []) rfl rfl rfl (Nat.le_refl _) (fun _ _ _ => rfl) ⟨⟨_, ⟨?_, .inr ⟨b, cap, C.toArray, rfl, Nat.zero_le _, hB, h1, h2, by simpa using h3, rfl⟩⟩, h4⟩, by simp⟩ (by simp [Res.row, Value.ownBlock]) (fun c hc => .inl (by simpa [Res.row, Res.bx, Value.ownBlock] using hc))
 rw [length_take, h3]
 have := Nat.mul_le_mul_right (Shape.size α) h1
 omega
theorem Elems.parts {α : Type} [Shape α] {W : World} : ∀ {xs : List α} {cells : List Value} (i : Nat), i ≤ xs.length → Elems W cells xs [] → Elems W (cells.take (i * Shape.size α)) (xs.take i) [] ∧ Elems W (cells.drop (i * Shape.size α)) (xs.drop i) []
 | xs, cells, 0, _, h => by simpa using (show Elems W [] ([] : List α) [] ∧ Elems W cells xs [] from ⟨⟨rfl, rfl⟩, h⟩)
 | x :: xs, cells, i + 1, hi, ⟨cs, rest, f1, f2, h1, h2, h3, h4⟩ => by
  have hf := append_eq_nil_iff.1 h4.symm
  obtain ⟨rfl, rfl⟩ := hf
  have hl := Shape.len h2
  obtain ⟨p1, p2⟩ := Elems.parts i (by simpa using hi) h3
  subst h1
  have e1 : (cs ++ rest).take ((i + 1) * Shape.size α) = cs ++ rest.take (i * Shape.size α) := by
   rw [Nat.add_mul, Nat.one_mul, Nat.add_comm, ← hl, take_length_add_append]
  have s : (cs ++ rest).drop ((i + 1) * Shape.size α) = rest.drop (i * Shape.size α) := by
   rw [Nat.add_mul, Nat.one_mul, Nat.add_comm, ← hl, drop_length_add_append]
  rw [e1, s]
  exact ⟨⟨cs, _, [], [], rfl, h2, p1, rfl⟩, p2⟩
 | [], cells, i + 1, hi, _ => by simp at hi
theorem Elems.entry {W W' : World} : ∀ {xs : List Entry} {cells : List Value}, Elems W cells xs [] → Elems W' cells xs []
 | [], _, h => h
 | x :: xs, _, ⟨cs, rest, f1, f2, h1, h2, h3, h4⟩ => by
  have hf := append_eq_nil_iff.1 h4.symm
  obtain ⟨rfl, rfl⟩ := hf
  exact ⟨cs, rest, [], [], h1, h2, Elems.entry h3, rfl⟩
theorem xN (D : List Value) (a m : Nat) (h : a + 4 + m ≤ D.length) : ∃ B4 Bm T, D = D.take a ++ B4 ++ Bm ++ T ∧ B4.length = 4 ∧ Bm.length = m ∧ (D.take a).length = a := by
 refine ⟨(D.drop a).take 4, ((D.drop a).drop 4).take m, ((D.drop a).drop 4).drop m, ?_, by rw [length_take, length_drop]; omega, by rw [length_take, length_drop, length_drop]; omega, by rw [length_take]; omega⟩
 rw [append_assoc, append_assoc, take_append_drop, take_append_drop, take_append_drop]
theorem ins_in {D Y M : List Value} {a : Nat} (hY : Y.length = 4) (h : a + 4 + M.length ≤ D.length) : ∃ T, cC (cC D (a + 4) M) a Y = D.take a ++ Y ++ M ++ T := by
 obtain ⟨s, Bm, T, hD, t, hm, ha⟩ := xN D a M.length h
 refine ⟨T, ?_⟩
 have b : cC D (a + 4) M = D.take a ++ s ++ M ++ T := by
  have := jS (D.take a ++ s) Bm T M 0 aE
  rw [length_append, ha, t, Nat.add_zero, jT _ _ hm.symm, ← hD] at this
  exact this
 rw [b]
 have := jS (D.take a) s (M ++ T) Y 0 aE
 rw [ha, Nat.add_zero, jT _ _ aE] at this
 simpa [append_assoc] using this
theorem ins_new {D Y M : List Value} {a : Nat} (hY : Y.length = 4) (h : a + 4 + M.length ≤ D.length) : ∃ T, cC (cC D a Y) (a + 4) M = D.take a ++ Y ++ M ++ T := by
 obtain ⟨s, Bm, T, hD, t, hm, ha⟩ := xN D a M.length h
 refine ⟨T, ?_⟩
 have b : cC D a Y = D.take a ++ Y ++ Bm ++ T := by
  have := jS (D.take a) s (Bm ++ T) Y 0 aE
  rw [ha, Nat.add_zero, jT _ _ aE] at this
  rw [show D.take a ++ s ++ (Bm ++ T) = D by rw [← append_assoc]; exact hD.symm] at this
  simpa [append_assoc] using this
 rw [b]
 have := jS (D.take a ++ Y) Bm T M 0 aE
 rw [length_append, ha, hY, Nat.add_zero, jT _ _ hm.symm] at this
 exact this
theorem zD {W W' : World} {xs : List Entry} {y : Entry} {C C2 Y T : List Value} {k : Nat} (hk : k ≤ xs.length) (he : Elems W (C.take (xs.length * 4)) xs []) (hl : xs.length * 4 ≤ C.length) (hY : Elems W' Y [y] []) (hC2 : C2 = C.take (k * 4) ++ Y ++ (C.drop (k * 4)).take ((xs.length - k) * 4) ++ T) :
  Elems W' (C2.take ((xs.length + 1) * 4)) (xs.take k ++ y :: xs.drop k) [] := by
 obtain ⟨s, t⟩ := Elems.parts (α := Entry) k hk he
 have hs : Shape.size Entry = 4 := rfl
 rw [hs] at s t
 have hYl : Y.length = 4 := by have := hY.len; rw [hs] at this; simpa using this
 have a : (C.take (xs.length * 4)).take (k * 4) = C.take (k * 4) := by rw [take_take, Nat.min_eq_left aE]
 have b : (C.take (xs.length * 4)).drop (k * 4) = (C.drop (k * 4)).take ((xs.length - k) * 4) := by rw [drop_take, Nat.sub_mul]
 rw [a] at s
 rw [b] at t
 have hlen : (C.take (k * 4) ++ Y ++ (C.drop (k * 4)).take ((xs.length - k) * 4)).length = (xs.length + 1) * 4 := by
  rw [length_append, length_append, length_take, length_take, length_drop, hYl]; omega
 rw [hC2, ← hlen, take_left]
 have c := (Elems.append (Elems.append (Elems.entry (W' := W') s) hY) (Elems.entry (W' := W') t))
 simpa [append_assoc] using c
def lH (xs : List Entry) (e : Entry) : Nat := (fW (fun x => !fD x e) xs).getD xs.length
def kN (xs : List Entry) (e : Entry) : List Entry := xs.take (lH xs e) ++ e :: xs.drop (lH xs e)
theorem wU (xs : List Entry) (e : Entry) : lH xs e ≤ xs.length := by
 unfold lH
 cases h : fW (fun x => !fD x e) xs with
 | none => exact Nat.le_refl _
 | some k => exact Nat.le_of_lt (qM h).1
theorem aF4 (xs : List Entry) (e : Entry) : (kN xs e).length = xs.length + 1 := by
 have := wU xs e
 unfold kN
 rw [length_append, length_cons, length_take, length_drop]; omega
theorem putIx_none {xs : List Entry} {e : Entry} (h : ixI (fW (fun x => !fD x e) xs) < 0) : lH xs e = xs.length := by
 unfold lH
 cases hq : fW (fun x => !fD x e) xs with
 | none => rfl
 | some k => rw [hq] at h; simp only [ixI] at h; omega
theorem putIx_some {xs : List Entry} {e : Entry} (h : ¬ ixI (fW (fun x => !fD x e) xs) < 0) : ixI (fW (fun x => !fD x e) xs) = (lH xs e : Int) := by
 unfold lH
 cases hq : fW (fun x => !fD x e) xs with
 | none => rw [hq] at h; simp only [ixI] at h; omega
 | some k => rfl
theorem aF3 {xs : List Entry} {e : Entry} {k : Nat} (hk : k ≤ xs.length) (ha : (xs.take k).any (fun x => !fD x e) = false) (he : k = xs.length ∨ ∃ h : k < xs.length, fD xs[k] e = false) : lH xs e = k := by
 unfold lH
 rcases he with rfl | ⟨h, he⟩
 ·rw [take_length] at ha
  rw [lV ha]; rfl
 rw [lU h ha (by simp [he])]; rfl


theorem aF9 {a b c : Nat} (h : c ≤ a ∧ c ≤ b) (h2 : c = a ∨ c = b) : Nat.min a b = c := by
 have : Nat.min a b = min a b := rfl
 omega
theorem aC1 {C : List Value} {o m j : Nat} {v : Value} (h : ((C.drop o).take m)[j]? = some v) : C[o + j]? = some v := by
 rw [getElem?_take] at h
 split at h
 ·rwa [getElem?_drop] at h
 cases h
theorem aL0 {W : World} {C : List Value} {xs : List Entry} {k m : Nat} (he : Elems W (C.take (xs.length * Shape.size Entry)) xs []) (hkm : k * 4 + m ≤ xs.length * 4 := by omega) : ∀ v ∈ (C.drop (k * 4)).take m, v.oneCell' = true := by
 intro v hv
 refine he.one v ?_
 obtain ⟨j, hj⟩ := mem_iff_getElem?.1 hv
 have hjm : j < m := by
  rw [getElem?_take] at hj
  split at hj
  ·assumption
  cases hj
 have := aC1 hj
 exact mem_iff_getElem?.2 ⟨k * 4 + j, by rw [getElem?_take, if_pos (by show _ < xs.length * 4; omega)]; exact this⟩
theorem overlaps_E {w0 W : World} {rs : List Res} {b b2 : Nat} {C C2 : List Value} {o2 n1 c1 n2 c2 : Nat} {i : Nat} (hst : St w0 W (Res.bx b C 131 :: rs)) (hi : rs[i]? = some (Res.bx b2 C2 131)) (hC : 0 < C2.length) :
  (callFunc 241 #[.slice (some ⟨b, 0, none⟩) n1 c1, .slice (some ⟨b2, o2, none⟩) n2 c2]).run prog W = .ok (.value (.bool false)) W := by
 have hB : W.heap[b]? = some (.cells C.toArray 131 (0, 0)) := hst.get 0 rfl
 have s : W.heap[b2]? = some (.cells C2.toArray 131 (0, 0)) := hst.get (i + 1) (by simpa using hi)
 have hne : b ≠ b2 := by
  have hnd := hst.nodup
  rw [flatMap_cons, nodup_append] at hnd
  exact fun e => hnd.2.2 b (by simp [Res.bx]) b2 (mem_flatMap.2 ⟨_, mem_of_getElem? hi, by simp [Res.bx]⟩) e
 rw [run_callFunc_extern func241 aD aD aD (e := Extern.SlicesOverlaps.overlaps #[124, 124] #[4]) aD,
  Go.Lib.run_overlaps_apart W 124 4 131 underlying124 4 (fun w => jK sl_EntryS.size w) ⟨b, 0, none⟩ ⟨b2, o2, none⟩ n1 c1 n2 c2 hne 131 131 C.length C2.length
   (by simp [World.shape?, hB]) (by simp [World.shape?, s]) aE (by simp [World.frozen?, hB]) (by simp [World.frozen?, hB])]
 rfl

theorem aI6 {v : Value} {xs : List Entry} {fp : List Nat} (h : Sl w v xs fp) (F : FuncId) (capt : List Value) {fn : Func} (hfn : prog.funcs[F]? = some fn) (hok : ((fn.name == "runtime.NumGoroutine") || fn.body.isNone) = false) (p : Entry → Bool)
  (hF : ∀ (w1 : World) (i : Nat) (hi : i < xs.length) (cs : List Value) (f1 : List Nat), Below w.heap.size w w1 → Shape.C w1 cs xs[i] f1 → Calls prog F (Value.agg cs.toArray :: capt).toArray w1 fun e w2 => e = .returned (.bool (p xs[i])) ∧ St w1 w2 []) :
  Calls prog 227 #[v, .func (.func F) #[] capt.toArray] w fun e w' => e = .returned (I (ixI (fW p xs))) ∧ St w w' [] := by have zq1 := @func227; have zq2 := @ntmps227; have zq3 := @results227; have zq4 := @oR; exact tq6_
theorem PutEntryC {x : Entry} (hc : Shape.C w cs x fp) {b : Nat} {t : TypeId} {e : Entry} (hd : Shape.C w [I e.prio, I e.seq, I e.run, I e.task] e []) (hB : (Res.bx b [I e.prio, I e.seq, I e.run, I e.task] t).holds w) :
  Calls prog 228 #[.agg cs.toArray, pt_ b] w fun ee w' => ee = .returned (.bool (!fD x e)) ∧ St w w' [] := by
 refine bY func228 rfl ntmps228 aZ (wp_seq (aA (sg (aI (cs := cs) rfl (St.start w) ?_)))); intro a c d g
 refine sg (aG (aB (wp_seq (aA (rc g 5 Ag.nil.put.put.put.put [3] [(3, .bool (!(fD x e)))] [qw 0 rfl (Shape.len hc), qr (bQ hB) 0, qc func159 rfl (fun W s b => aQ4 W hc hd), .o] aD fun f9 j a c d => (aB (wr (bA results228 (a.at 3) ?_))))))))
 exact ⟨rfl, c.bare⟩
theorem aN2 {w W0 : World} {rs : List Res} {v : Value} {xs : List Entry} {lb : Nat} {y : Entry} (k : Nat) (hst : St w W0 (Res.row (α := Entry) 131 v xs [] :: Res.bx lb [I y.prio, I y.seq, I y.run, I y.task] 131 :: rs)) (hk : k ≤ xs.length) (hy : y.ok) (hxl : xs.length ≤ 1048576) :
  Calls prog 229 #[v, I (k : Int), .slice (some ⟨lb, 0, none⟩) 1 1] W0 fun e w' => ∃ v', e = .returned v' ∧ St w w' (Res.row (α := Entry) 131 v' (xs.take k ++ y :: xs.drop k) [] :: rs) := by
 refine iS func229 rfl ntmps229 aZ (wp_seq (aA (sg (aF (v := .slice none 0 0) rfl (aB (wp_seq (aA (sg (aH (v := v) rfl (sg (aH (v := I (k : Int)) rfl (sg (pD (l := k) sl_EntryS rfl (bX (hst.get 0 rfl)) rfl rfl aE ?_))))))))))))); intro s t b c
 refine aB (wp_seq (aA (rn hst 3 Ag.nil.put.put.put.put.put.put.put [] [(7, I 1)] [.l (.slice (some ⟨lb, 0, none⟩) 1 1) 1 ⟨_, _, rfl⟩] aD fun f10 d => (aB (wp_seq (wp_seq (aA (sg (aH (d.at 7) (sg (dC rfl rfl (aB (aP rfl (fun g => ?_) (fun g => ?_))))))))))))))
 ·exact absurd g aZ
 refine wp_skip (wp_seq (aA (rn hst 3 d.put.put [] [(8, I (xs.length : Int))] [ql (bX (hst.get 0 rfl))] aD fun f15 s => (aB (wp_seq (wp_seq (aA (rn hst 3 s [] [(22, .bool (decide ((k : Int) = (xs.length : Int))))] [.o] aD fun t n => (aB (aP (n.at 22) (fun b => ?_) (fun b => ?_)))))))))))
 ·refine wp_seq (aA (sg (aH (n.at 0) (sg (aH (n.at 2) ?_)))))
  have c := hst.f1
  refine sg (cA (ys := [(⟨y.prio, y.seq, y.run, y.task⟩ : Entry)]) cG rfl rfl rfl c.f1 (Elems.one1 ⟨rfl, rfl, hy⟩) (by unfold maxLen; omega) aE ?_); intro s t p
  refine sg (aF (v := s) rfl (aB (wr (bA results229 rfl ?_))))
  have hke : k = xs.length := by omega
  subst hke
  refine ⟨_, rfl, ?_⟩
  rw [take_length, drop_length]
  exact p
 refine wp_skip (wp_seq (wp_seq (aA (rn hst 4 n [] [(28, I ((xs.length : Int) + 1)), (29, v)] [qad (xs.length : Int) 1] aD fun s q => ?_))))
 have z := St.rowOpen hst aE
 obtain ⟨bg, cp, Cg, hvv, hcap, hmx, hCl, hel, A⟩ := z
 have B : Cg.length = cp * 4 := hCl
 subst hvv
 refine sg (stp_xcap sl_EntryS (q.at 29) (sg (aB2 (q.at 28) rfl (aB (aP rfl (fun t => ?_) (fun t => ?_))))))
 ·refine wp_seq (aA (sg (aH (q.at 0) (sg (aH (q.at 1) (sg (rI (h := k) sl_EntryS rfl rfl aE aE aE (lw q.put.put.put.put.put [(0, .slice (some ⟨bg, 0, none⟩) xs.length cp), (1, I (k : Int)), (2, .slice (some ⟨lb, 0, none⟩) 1 1), (7, I 1), (8, I (xs.length : Int)), (34, .slice (some ⟨bg, 0, none⟩) k cp)] aD fun s => (rn A 5 s [] [(39, I (((xs.length : Int) + 1) - (k : Int)))] [qad (xs.length : Int) 1, qsb ((xs.length : Int) + 1) (k : Int)] aD fun t E => (sg (stp_appz (α := Entry) (k0 := xs.length + 1 - k) (n1 := xs.length + 1) cG underlying3 (E.at 34) (E.at 39) aE aE A (by rw [hCl]; exact Nat.mul_le_mul_right _ aE) aE aE (by unfold maxLen; omega) aE ?_))))))))))); intro F G H s b c hZl t J
  have d : H.length = (G - k) * 4 := hZl
  refine sg (aF (v := .slice (some ⟨F, 0, none⟩) (xs.length + 1) G) rfl (aB (wp_seq (aA (sg (aH (v := .slice (some ⟨F, 0, none⟩) (xs.length + 1) G) rfl (sg (aH (E.at 1) (sg (nF (l := k) sl_EntryS rfl rfl aE aE aE (sg (aH (E.at 2) ?_))))))))))))
  refine sg (qB (α := Entry) (C := (Cg.take (k * Shape.size Entry) ++ H)) (cs := [I y.prio, I y.seq, I y.run, I y.task]) sl_EntryS rfl rfl (by rw [show Nat.min 1 ((xs.length + 1) - k) = 1 from Nat.min_eq_left aE]; rfl) (fun j v hj => (by rw [Addr.add_mid]; exact bQ (J.get 2 rfl) j v hj)) (by intro v hv; simp only [mem_cons, not_mem_nil, or_false] at hv; rcases hv with rfl | rfl | rfl | rfl <;> rfl) J (by simp only [length_cons, length_nil, length_append, length_take, fO, show Shape.size Entry = 4 from rfl]; omega) ?_); intro _ s t
  refine aB (wp_seq (cK 8 [] [(true, .is (.slice (some ⟨F, 0, none⟩) (xs.length + 1) G)), (true, .is (I (k : Int))), (true, .is (I 1)), (true, .is (I ((k : Int) + 1))), (true, .is (.slice (some ⟨F, 0 + (k + 1) * 4, none⟩) ((xs.length + 1) - (k + 1)) (G - (k + 1)))), (true, .is (.slice (some ⟨bg, 0, none⟩) xs.length cp)), (true, .is (I (k : Int))), (true, .is (.slice (some ⟨bg, 0 + k * 4, none⟩) (xs.length - k) (cp - k)))] mix aD aD aD aD (rs0 := []) rfl t (Below.refl _ _) ⟨(mq_ (show _ = (.slice (some ⟨F, 0, none⟩) (xs.length + 1) G : Value) from rfl)), (mq_ (E.at 1)), (mq_ (E.at 7)), (fun f W hst hbl hd hf => bO (hd 1 47 rfl rfl) (hd 2 48 rfl rfl) dL brq), (fun f W hst hbl hd hf => nF (l := k + 1) sl_EntryS (hd 0 46 rfl rfl) (hd 3 49 rfl rfl) aE aE aE brq), (mq_ (E.at 0)), (mq_ (E.at 1)), (fun f W hst hbl hd hf => nF (l := k) sl_EntryS (hd 5 51 rfl rfl) (hd 6 52 rfl rfl) aE aE aE brq), trivial⟩ ?_))
  intro s t rs_ hAL_ b c d g
  have n : rs_ = [] := hAL_
  subst n
  try simp only [cap_, cL] at b
  refine sg (qB (α := Entry) (C := (cC (Cg.take (k * Shape.size Entry) ++ H) (0 + k * 4) [I y.prio, I y.seq, I y.run, I y.task])) (cs := ((Cg.drop (k * 4)).take ((xs.length - k) * 4))) sl_EntryS (d 4 50 aZ rfl) (d 7 53 aZ rfl) (by rw [show Nat.min (xs.length - k) ((xs.length + 1) - (k + 1)) = xs.length - k from aF9 aE aE]; rw [length_take, length_drop, B, show Shape.size Entry = 4 from rfl]; omega) (fun j v hj => (by rw [Addr.add_mid, Nat.add_assoc]; exact bQ (b.get 1 rfl) _ v (aC1 hj))) (aL0 hel) b (by simp only [length_append, length_take, length_drop, fO, show Shape.size Entry = 4 from rfl]; omega) ?_); intro _ s t
  refine aB (wp_seq (aA (sg (aH (v := .slice (some ⟨F, 0, none⟩) (xs.length + 1) G) ((g 9 rfl).trans (show _ = (.slice (some ⟨F, 0, none⟩) (xs.length + 1) G : Value) from rfl)) (sg (aF (v := .slice (some ⟨F, 0, none⟩) (xs.length + 1) G) rfl (aB (wr (bA results229 rfl ?_)))))))))
  have hel_ : Elems _ (Cg.take (xs.length * 4)) xs [] := hel
  have hYe : Elems s [I y.prio, I y.seq, I y.run, I y.task] [y] [] := Elems.one1 ⟨rfl, rfl, hy⟩
  have z := ins_new (D := Cg.take (k * 4) ++ H) (a := k * 4) (Y := [I y.prio, I y.seq, I y.run, I y.task]) (M := (Cg.drop (k * 4)).take ((xs.length - k) * 4)) rfl (by simp only [length_append, length_take, length_drop, length_cons, length_nil, fO, show Shape.size Entry = 4 from rfl]; omega)
  obtain ⟨T, hT⟩ := z
  rw [take_append_of_le_length (by rw [length_take]; omega), take_take, Nat.min_self] at hT
  have hfin := zD (W := _) (W' := s) (y := y) (k := k) aE (hel_) aE hYe hT
  have hCe : (cC (cC (Cg.take (k * Shape.size Entry) ++ H) (0 + k * 4) [I y.prio, I y.seq, I y.run, I y.task]) (0 + (k + 1) * 4) ((Cg.drop (k * 4)).take ((xs.length - k) * 4))) = cC (cC (Cg.take (k * 4) ++ H) (k * 4) [I y.prio, I y.seq, I y.run, I y.task]) (k * 4 + 4) ((Cg.drop (k * 4)).take ((xs.length - k) * 4)) := by simp only [Nat.zero_add, Nat.add_mul, Nat.one_mul, show Shape.size Entry = 4 from rfl]
  have stz : St w s (Res.bx F (cC (cC (Cg.take (k * Shape.size Entry) ++ H) (0 + k * 4) [I y.prio, I y.seq, I y.run, I y.task]) (0 + (k + 1) * 4) ((Cg.drop (k * 4)).take ((xs.length - k) * 4))) 131 :: _) := t
  rw [hCe] at stz
  have K : (cC (cC (Cg.take (k * 4) ++ H) (k * 4) [I y.prio, I y.seq, I y.run, I y.task]) (k * 4 + 4) ((Cg.drop (k * 4)).take ((xs.length - k) * 4))).length = G * Shape.size Entry := by rw [← hCe]; simp only [length_append, length_take, length_drop, fO, show Shape.size Entry = 4 from rfl]; omega
  have stf := St.rowShut (α := Entry) (xs := xs.take k ++ y :: xs.drop k) (m := xs.length + 1) (cap := G) stz (by rw [length_append, length_cons, length_take, length_drop]; omega) aE aE K hfin
  exact ⟨_, rfl, stf.d1.d1⟩
 refine wp_skip (wp_seq (aA (lw q.put.put [(0, .slice (some ⟨bg, 0, none⟩) xs.length cp), (1, I (k : Int)), (2, .slice (some ⟨lb, 0, none⟩) 1 1), (7, I 1), (8, I (xs.length : Int))] aD fun s => (rn A 4 s [] [(56, .slice (some ⟨bg, 0, none⟩) xs.length cp), (59, I ((xs.length : Int) + 1))] [qad (xs.length : Int) 1] aD fun t b => (sg (rI (h := (xs.length) + 1) sl_EntryS (b.at 56) (b.at 59) aE aE aE (sg (aF (v := .slice (some ⟨bg, 0, none⟩) ((xs.length) + 1) cp) rfl (aB (wp_seq (wp_seq (aA (rn A 5 b.put.put [] [(61, .slice (some ⟨lb, 0, none⟩) 1 1), (62, .slice (some ⟨bg, 0, none⟩) ((xs.length) + 1) cp), (65, I ((k : Int) + 1))] [qad (k : Int) 1] aD fun s L => ?_)))))))))))))
 refine sg (nF (l := k + 1) sl_EntryS (L.at 62) (L.at 65) aE aE aE (sg (stp_callx (L.at 61) rfl (overlaps_E A.f1 (i := 0) rfl aE) (sg (sC rfl (aB (gY rfl rfl (wp_seq (cK 8 [] [(true, .is (.slice (some ⟨bg, 0, none⟩) ((xs.length) + 1) cp)), (true, .is (I (k : Int))), (true, .is (I 1)), (true, .is (I ((k : Int) + 1))), (true, .is (.slice (some ⟨bg, 0 + (k + 1) * 4, none⟩) (((xs.length) + 1) - (k + 1)) (cp - (k + 1)))), (true, .is (.slice (some ⟨bg, 0, none⟩) ((xs.length) + 1) cp)), (true, .is (I (k : Int))), (true, .is (.slice (some ⟨bg, 0 + k * 4, none⟩) (((xs.length) + 1) - k) (cp - k)))] mix aD aD aD aD (rs0 := []) rfl A.f1 (Below.refl _ _) ⟨(mq_ (L.at 0)), (mq_ (L.at 1)), (mq_ (L.at 7)), (fun f W hst hbl hd hf => bO (hd 1 70 rfl rfl) (hd 2 71 rfl rfl) dL brq), (fun f W hst hbl hd hf => nF (l := k + 1) sl_EntryS (hd 0 69 rfl rfl) (hd 3 72 rfl rfl) aE aE aE brq), (mq_ (L.at 0)), (mq_ (L.at 1)), (fun f W hst hbl hd hf => nF (l := k) sl_EntryS (hd 5 74 rfl rfl) (hd 6 75 rfl rfl) aE aE aE brq), trivial⟩ ?_)))))))))
 intro s t rs_ hAL_ b c d N
 have n : rs_ = [] := hAL_
 subst n
 try simp only [cap_, cL] at b
 have g := b.f1
 refine sg (qB (α := Entry) (C := Cg) (cs := ((Cg.drop (k * 4)).take ((xs.length - k) * 4))) sl_EntryS (d 4 73 aZ rfl) (d 7 76 aZ rfl) (by rw [show Nat.min (((xs.length) + 1) - k) (((xs.length) + 1) - (k + 1)) = xs.length - k from aF9 aE aE]; rw [length_take, length_drop, B, show Shape.size Entry = 4 from rfl]; omega) (fun j v hj => (by rw [Addr.add_mid, Nat.add_assoc]; exact bQ (g.get 0 rfl) _ v (aC1 hj))) (aL0 hel) g (by simp only [length_append, length_take, length_drop, fO, show Shape.size Entry = 4 from rfl]; omega) ?_); intro _ s O
 refine aB (wp_seq (aA (sg (aH (v := .slice (some ⟨bg, 0, none⟩) ((xs.length) + 1) cp) ((N 0 rfl).trans (L.at 0)) (sg (aH (v := I (k : Int)) ((N 1 rfl).trans (L.at 1)) (sg (nF (l := k) sl_EntryS rfl rfl aE aE aE (sg (aH (v := .slice (some ⟨lb, 0, none⟩) 1 1) ((N 2 rfl).trans (L.at 2)) ?_))))))))))
 refine sg (qB (α := Entry) (C := (cC Cg (0 + (k + 1) * 4) ((Cg.drop (k * 4)).take ((xs.length - k) * 4)))) (cs := [I y.prio, I y.seq, I y.run, I y.task]) sl_EntryS rfl rfl (by rw [show Nat.min 1 (((xs.length) + 1) - k) = 1 from Nat.min_eq_left aE]; rfl) (fun j v hj => (by rw [Addr.add_mid]; exact bQ (O.get 1 rfl) j v hj)) (by intro v hv; simp only [mem_cons, not_mem_nil, or_false] at hv; rcases hv with rfl | rfl | rfl | rfl <;> rfl) O (by simp only [length_cons, length_nil, length_append, length_take, fO, show Shape.size Entry = 4 from rfl]; omega) ?_); intro _ s t
 refine aB (wp_seq (aA (sg (aH (v := .slice (some ⟨bg, 0, none⟩) ((xs.length) + 1) cp) ((N 0 rfl).trans (L.at 0)) (sg (aF (v := .slice (some ⟨bg, 0, none⟩) ((xs.length) + 1) cp) rfl (aB (wr (bA results229 rfl ?_)))))))))
 have hel_ : Elems _ (Cg.take (xs.length * 4)) xs [] := hel
 have hYe : Elems s [I y.prio, I y.seq, I y.run, I y.task] [y] [] := Elems.one1 ⟨rfl, rfl, hy⟩
 have z := ins_in (D := Cg) (a := k * 4) (Y := [I y.prio, I y.seq, I y.run, I y.task]) (M := (Cg.drop (k * 4)).take ((xs.length - k) * 4)) rfl (by simp only [length_append, length_take, length_drop, length_cons, length_nil, fO, show Shape.size Entry = 4 from rfl]; omega)
 obtain ⟨T, hT⟩ := z
 have hfin := zD (W := _) (W' := s) (y := y) (k := k) aE (hel_) aE hYe hT
 have hCe : (cC (cC Cg (0 + (k + 1) * 4) ((Cg.drop (k * 4)).take ((xs.length - k) * 4))) (0 + k * 4) [I y.prio, I y.seq, I y.run, I y.task]) = cC (cC Cg (k * 4 + 4) ((Cg.drop (k * 4)).take ((xs.length - k) * 4))) (k * 4) [I y.prio, I y.seq, I y.run, I y.task] := by simp only [Nat.zero_add, Nat.add_mul, Nat.one_mul]
 have stz : St w s (Res.bx bg (cC (cC Cg (0 + (k + 1) * 4) ((Cg.drop (k * 4)).take ((xs.length - k) * 4))) (0 + k * 4) [I y.prio, I y.seq, I y.run, I y.task]) 131 :: _) := t
 rw [hCe] at stz
 have K : (cC (cC Cg (k * 4 + 4) ((Cg.drop (k * 4)).take ((xs.length - k) * 4))) (k * 4) [I y.prio, I y.seq, I y.run, I y.task]).length = cp * Shape.size Entry := by rw [← hCe]; simp only [length_append, length_take, length_drop, fO, show Shape.size Entry = 4 from rfl]; omega
 have stf := St.rowShut (α := Entry) (xs := xs.take k ++ y :: xs.drop k) (m := xs.length + 1) (cap := cp) stz (by rw [length_append, length_cons, length_take, length_drop]; omega) aE aE K hfin
 exact ⟨_, rfl, stf.d1⟩
theorem aA3 {v : Value} {xs : List Entry} {fp : List Nat} (h : Sl w v xs fp) {ds : List Value} {e : Entry} {gp : List Nat} (hde : Shape.C w ds e gp) (hxl : xs.length ≤ 1048576) :
  Calls prog 192 #[v, .agg ds.toArray] w fun ee w' => ∃ (v' : Value) (fp' : List Nat), ee = .returned v' ∧ St w w' [Res.own v' (kN xs e) fp'] := by
 have hd_ := hde
 obtain ⟨rfl, rfl, hok⟩ := hd_
 have hpl := wU xs e
 refine bY func192 rfl ntmps192 aZ (wp_seq (aA (sg (aI (cs := [I e.prio, I e.seq, I e.run, I e.task]) rfl (St.start w) ?_)))); intro s t a b
 refine sg (aF (v := .slice none 0 0) rfl (aB (wp_seq (aA (sg (aH (v := v) rfl (sg (gQ nZ (pJ (v := pt_ s) rfl nZ) (sg (bN func227 rfl rfl rfl ((aI6 t (h.below b.below) 228 [pt_ s] func228 rfl (fun x => !fD x e) (fun w1 i hi cs f1 hb hc => PutEntryC w1 hc (show Shape.C _ _ _ _ from hde) (Res.below (b.get 0 rfl) hb))).mono ?_))))))))))); rintro _ a ⟨rfl, t⟩; refine ⟨_, rfl, ?_⟩
 have c := St.call b t
 refine sg (aF (v := I (ixI (fW (fun x => !fD x e) xs))) rfl (aB (wp_seq (wp_seq (aA (sg (aH (v := I (ixI (fW (fun x => !fD x e) xs))) rfl (sg (bU rfl rfl (aB (aP rfl (fun b => ?_) (fun b => ?_))))))))))))
 ·refine aA (rn c 3 Ag.nil.put.put.put.put.put.put.put.put.put.put [5] [(5, I (xs.length : Int))] [ql h] aD fun t d => (aB (wp_seq (cK 5 [(some 1, none, .of (ι := Value) [14] (fun g => [g]) (fun g => Res.row (α := Entry) 131 g xs [])), (some 4, none, .of (ι := Nat) [17] (fun j => [.slice (some ⟨j, 0, none⟩) 1 1]) (fun j => Res.bx j [I e.prio, I e.seq, I e.run, I e.task] 131))] [(true, .is (v)), (false, .ex (fun (g : Value) => g)), (true, .is (I (lH xs e : Int))), (true, .is (.agg #[I e.prio, I e.seq, I e.run, I e.task])), (false, .ex (fun (j : Nat) => .slice (some ⟨j, 0, none⟩) 1 1))] mix aD aD aD aD (rs0 := []) rfl c (Below.refl _ _) ⟨(mq_ (d.at 0)), ?_, (fun f W hst hbl hd hf => aH (v := I (lH xs e : Int)) ((hf 5 rfl).trans (Eq.trans (show _ = I (xs.length : Int) from (d.at 5)) (congrArg I (by rw [putIx_none b])))) brq), (fun f W hst hbl hd hf => aS (cs := [I e.prio, I e.seq, I e.run, I e.task]) eI rfl ((hf 3 rfl).trans (d.at 3)) (hst.get 0 rfl) rfl rfl brq), ?_, trivial⟩ ?_))))
  ·intro f W ru oth hu hst hbl hd hf
   have t : ru = [] := hu
   subst t
   try simp only [cap_, cL] at hst
   refine (bC func174 rfl (hd 0 13 rfl rfl) ((iL W (h.below hst.below) aE).mono ?_)); rintro _ d ⟨g, rfl, n⟩; refine ⟨_, rfl, ?_⟩
   have p := St.call hst n
   exact ⟨⟨g, rfl⟩, ⟨_, ⟨_, _, rfl, ⟨g, (ce rfl rfl), rfl⟩, rfl⟩, p⟩, (hbl.trans (Below.mono n.below hbl.size))⟩
  ·intro f W ru oth hu hst hbl hd hf
   have t : ru = [] := hu
   subst t
   try simp only [cap_, cL] at hst
   refine (aU (cs := [I e.prio, I e.seq, I e.run, I e.task]) (e := 131) (bR (v := .agg #[I e.prio, I e.seq, I e.run, I e.task]) (hd 3 16 rfl rfl) dJ) (bG cG _ _ rfl rfl aZ) hst ?_); intro j d n p
   exact ⟨⟨j, rfl⟩, ⟨_, ⟨_, _, rfl, ⟨j, (ce rfl rfl), rfl⟩, rfl⟩, p⟩, (hbl.trans (Below.mono n hbl.size))⟩
  intro q z rs_ hAL_ A B D E
  obtain ⟨_, _, rfl, ⟨g, F, rfl⟩, _, _, rfl, ⟨j, d, rfl⟩, t⟩ := hAL_
  have t : _ = [] := t
  subst t
  have G : q 14 = g := congrArg (fun l => l.getD 0 undef) F
  have n : q 17 = .slice (some ⟨j, 0, none⟩) 1 1 := congrArg (fun l => l.getD 0 undef) d
  try simp only [cap_, cL] at A
  have p := A.f1
  refine sg (eL func229 rfl G (D 2 15 aZ rfl) n ((aN2 (y := e) (lH xs e) p.f1 aE (by assumption) aE).mono ?_)); rintro _ g ⟨j, rfl, q⟩; refine ⟨_, rfl, ?_⟩
  refine sg (aF (v := j) rfl (aB (wr (bA results192 rfl ?_))))
  have d := q.shut
  obtain ⟨z, A⟩ := d
  exact ⟨_, _, rfl, A.only 0 rfl⟩
 refine wp_skip (wp_seq (cK 5 [(some 1, none, .of (ι := Value) [14] (fun g => [g]) (fun g => Res.row (α := Entry) 131 g xs [])), (some 4, none, .of (ι := Nat) [17] (fun j => [.slice (some ⟨j, 0, none⟩) 1 1]) (fun j => Res.bx j [I e.prio, I e.seq, I e.run, I e.task] 131))] [(true, .is (v)), (false, .ex (fun (g : Value) => g)), (true, .is (I (lH xs e : Int))), (true, .is (.agg #[I e.prio, I e.seq, I e.run, I e.task])), (false, .ex (fun (j : Nat) => .slice (some ⟨j, 0, none⟩) 1 1))] mix aD aD aD aD (rs0 := []) rfl c (Below.refl _ _) ⟨(mq_ (show _ = v from rfl)), ?_, (fun f W hst hbl hd hf => aH (v := I (lH xs e : Int)) ((hf 5 rfl).trans (Eq.trans (show _ = I (ixI (fW (fun x => !fD x e) xs)) from rfl) (congrArg I (putIx_some b)))) brq), (fun f W hst hbl hd hf => aS (cs := [I e.prio, I e.seq, I e.run, I e.task]) eI rfl ((hf 3 rfl).trans (show _ = (pt_ s : Value) from rfl)) (hst.get 0 rfl) rfl rfl brq), ?_, trivial⟩ ?_))
 ·intro f W ru oth hu hst hbl hd hf
  have t : ru = [] := hu
  subst t
  try simp only [cap_, cL] at hst
  refine (bC func174 rfl (hd 0 13 rfl rfl) ((iL W (h.below hst.below) aE).mono ?_)); rintro _ s ⟨g, rfl, a⟩; refine ⟨_, rfl, ?_⟩
  have b := St.call hst a
  exact ⟨⟨g, rfl⟩, ⟨_, ⟨_, _, rfl, ⟨g, (ce rfl rfl), rfl⟩, rfl⟩, b⟩, (hbl.trans (Below.mono a.below hbl.size))⟩
 ·intro f W ru oth hu hst hbl hd hf
  have t : ru = [] := hu
  subst t
  try simp only [cap_, cL] at hst
  refine (aU (cs := [I e.prio, I e.seq, I e.run, I e.task]) (e := 131) (bR (v := .agg #[I e.prio, I e.seq, I e.run, I e.task]) (hd 3 16 rfl rfl) dJ) (bG cG _ _ rfl rfl aZ) hst ?_); intro j s a b
  exact ⟨⟨j, rfl⟩, ⟨_, ⟨_, _, rfl, ⟨j, (ce rfl rfl), rfl⟩, rfl⟩, b⟩, (hbl.trans (Below.mono a hbl.size))⟩
 intro c n rs_ hAL_ p q z A
 obtain ⟨_, _, rfl, ⟨g, B, rfl⟩, _, _, rfl, ⟨j, s, rfl⟩, t⟩ := hAL_
 have t : _ = [] := t
 subst t
 have D : c 14 = g := congrArg (fun l => l.getD 0 undef) B
 have a : c 17 = .slice (some ⟨j, 0, none⟩) 1 1 := congrArg (fun l => l.getD 0 undef) s
 try simp only [cap_, cL] at p
 have b := p.f1
 refine sg (eL func229 rfl D (z 2 15 aZ rfl) a ((aN2 (y := e) (lH xs e) b.f1 aE (by assumption) aE).mono ?_)); rintro _ t ⟨c, rfl, g⟩; refine ⟨_, rfl, ?_⟩
 refine sg (aF (v := c) rfl (aB (wr (bA results192 rfl ?_))))
 have d := g.shut
 obtain ⟨s, j⟩ := d
 exact ⟨_, _, rfl, j.only 0 rfl⟩
theorem uM {v : Value} {xs : List Entry} {fp : List Nat} (h : Sl w v xs fp) {ds : List Value} {e : Entry} {gp : List Nat} (hde : Shape.C w ds e gp) (hxl : xs.length ≤ 1048576) :
  Calls prog 187 #[v, .agg ds.toArray] w fun ee w' => ∃ (v' : Value) (fp' : List Nat), ee = .returned v' ∧ St w w' [Res.own v' (kN xs e) fp'] := by
 have hd_ := hde
 obtain ⟨rfl, rfl, hok⟩ := hd_
 have hpl := wU xs e
 refine bY func187 rfl ntmps187 aZ (wp_seq (aA (sg (aI (cs := [I e.prio, I e.seq, I e.run, I e.task]) rfl (St.start w) ?_)))); intro t a c d
 refine sg (aF (v := .slice none 0 0) rfl (aB (wp_seq (aA (sg (aG (aB (wp_seq (wp_block (bF (fun (m : Nat) (f : Nat → Value) (W : World) => ∃ (k : Nat), k ≤ xs.length ∧ (xs.take k).any (fun x => !fD x e) = false ∧ m = xs.length - k ∧ Ag [(0, v), (3, pt_ t), (5, I (k : Int))] f ∧ St w W ([Res.bx t [I e.prio, I e.seq, I e.run, I e.task] 131])) (xs.length - 0) ?_ ?_))))))))))
 ·exact ⟨0, Nat.zero_le _, rfl, rfl, (Ag.nil.put.put.put.put.put.to aD), d⟩
 intro a f11 c g
 obtain ⟨k, hk, hany, rfl, j, n⟩ := g
 refine wp_seq (wp_seq ?_)
 rcases nem ((k : Int) < (xs.length : Int)) with t | t
 ·have p := decide_eq_false t
  refine rd n j [] [(18, .bool false)] [ql h, qk p] aD aD fun a d c q z => (kI (c.at 18) rfl (wp_exit (wp_seq (aA (sg (aU (cs := []) (e := 131) dJ (bT cG _) q ?_)))))); intro g A B D
  have D := D.row_empty (α := Entry)
  refine sg (aH (c.at 0) (sg (aH (c.at 5) (sg (mT (h := k) sl_EntryS rfl h rfl rfl aE ?_))))); intro a d z E
  refine sg (cX fE cG rfl rfl z D.below D (by simp only [length_append, length_take, length_drop, length_cons, length_nil]; unfold maxLen; omega) (by simp only [length_append, length_take, length_drop, length_cons, length_nil]; omega) ?_); intro g q A
  refine sg (aF (v := g) rfl (aB (wp_seq (aA (sg (aH (v := g) rfl (sg (aS (cs := [I e.prio, I e.seq, I e.run, I e.task]) eI rfl (c.at 3) (A.get 1 rfl) rfl rfl (sg (aU (cs := [I e.prio, I e.seq, I e.run, I e.task]) (e := 131) (bR (v := .agg #[I e.prio, I e.seq, I e.run, I e.task]) rfl dJ) (bG cG _ _ rfl rfl aZ) A ?_)))))))))); intro a d g q
  refine sg (cA (ys := [(⟨e.prio, e.seq, e.run, e.task⟩ : Entry)]) cG rfl rfl rfl q.f1 (Elems.one1 ⟨rfl, rfl, hok⟩) (by simp only [length_append, length_take, length_drop, length_cons, length_nil]; unfold maxLen; omega) (by simp only [length_append, length_take, length_drop, length_cons, length_nil]; omega) ?_); intro a d g
  refine sg (aF (v := a) rfl (aB (wp_seq (aA (rn g 3 c.put.put.put.put.put.put.put.put.put.put.put [] [(30, a), (31, v), (32, I (k : Int))] [] aD fun q z => (sg (pD (l := k) sl_EntryS (z.at 31) h (z.at 32) rfl aE ?_))))))); intro A B D E
  refine sg (cX fE cG (z.at 30) rfl D g.below g (by simp only [length_append, length_take, length_drop, length_cons, length_nil]; unfold maxLen; omega) (by simp only [length_append, length_take, length_drop, length_cons, length_nil]; omega) ?_); intro a c d
  refine sg (aF (v := a) rfl (aB (wr (bA results187 rfl ?_))))
  have F := d.shut
  obtain ⟨g, q⟩ := F
  have hpk := aF3 (e := e) (k := k) aE hany (.inl aE)
  have hfe : kN xs e = ([] ++ xs.take k ++ [e]) ++ xs.drop k := by unfold kN; rw [hpk]; simp
  rw [hfe]
  exact ⟨_, _, rfl, q.only 0 rfl⟩
 have p := decide_eq_true t
 have G : k < xs.length := aE
 have F := idx h (i := k) G
 obtain ⟨a, c, d, g, H, J, K, z⟩ := F
 have L := K
 obtain ⟨M, rfl, A⟩ := L
 have M : _ = [I (xs[k]'G).prio, I (xs[k]'G).seq, I (xs[k]'G).run, I (xs[k]'G).task] := M
 subst M
 refine rd n j [] [(18, .bool (fD (xs[k]'G) e))] [ql h, qk p, qx H, qr J 0, qb 0 rfl 0, qc (args := [.agg #[I (xs[k]'G).prio, I (xs[k]'G).seq, I (xs[k]'G).run, I (xs[k]'G).task], .agg #[I e.prio, I e.seq, I e.run, I e.task]]) (v := .bool (fD (xs[k]'G) e)) func211 rfl (fun W s b => aQ3 W K hde)] aD aD fun t a c d g => (bZ (c.at 18) (fun j => ?_) (fun j => ?_))
 ·refine wp_skip (wp_block (aA (rn d 3 c [5] [(5, I ((k : Int) + 1))] [qad (k : Int) 1] aD fun n p => (aB ?_))))
  exact ⟨_, xs.length - (k + 1), aE, rfl, k + 1, aE, (oR aE hany (by rw [j]; rfl)), rfl, (p.to aD), d⟩
 refine wp_exit (wp_seq (aA (sg (aU (cs := []) (e := 131) dJ (bT cG _) d ?_)))); intro t a g n
 have n := n.row_empty (α := Entry)
 refine sg (aH (c.at 0) (sg (aH (c.at 5) (sg (mT (h := k) sl_EntryS rfl h rfl rfl aE ?_))))); intro p q z A
 refine sg (cX fE cG rfl rfl z n.below n (by simp only [length_append, length_take, length_drop, length_cons, length_nil]; unfold maxLen; omega) (by simp only [length_append, length_take, length_drop, length_cons, length_nil]; omega) ?_); intro t a d
 refine sg (aF (v := t) rfl (aB (wp_seq (aA (sg (aH (v := t) rfl (sg (aS (cs := [I e.prio, I e.seq, I e.run, I e.task]) eI rfl (c.at 3) (d.get 1 rfl) rfl rfl (sg (aU (cs := [I e.prio, I e.seq, I e.run, I e.task]) (e := 131) (bR (v := .agg #[I e.prio, I e.seq, I e.run, I e.task]) rfl dJ) (bG cG _ _ rfl rfl aZ) d ?_)))))))))); intro t a g n
 refine sg (cA (ys := [(⟨e.prio, e.seq, e.run, e.task⟩ : Entry)]) cG rfl rfl rfl n.f1 (Elems.one1 ⟨rfl, rfl, hok⟩) (by simp only [length_append, length_take, length_drop, length_cons, length_nil]; unfold maxLen; omega) (by simp only [length_append, length_take, length_drop, length_cons, length_nil]; omega) ?_); intro t a d
 refine sg (aF (v := t) rfl (aB (wp_seq (aA (rn d 3 c.put.put.put.put.put.put.put.put.put.put.put [] [(30, t), (31, v), (32, I (k : Int))] [] aD fun g n => (sg (pD (l := k) sl_EntryS (n.at 31) h (n.at 32) rfl aE ?_))))))); intro p q z A
 refine sg (cX fE cG (n.at 30) rfl z d.below d (by simp only [length_append, length_take, length_drop, length_cons, length_nil]; unfold maxLen; omega) (by simp only [length_append, length_take, length_drop, length_cons, length_nil]; omega) ?_); intro t a c
 refine sg (aF (v := t) rfl (aB (wr (bA results187 rfl ?_))))
 have F := c.shut
 obtain ⟨d, g⟩ := F
 have hpk := aF3 (e := e) (k := k) aE hany (.inr ⟨by omega, j⟩)
 have hfe : kN xs e = ([] ++ xs.take k ++ [e]) ++ xs.drop k := by unfold kN; rw [hpk]; simp
 rw [hfe]
 exact ⟨_, _, rfl, g.only 0 rfl⟩
end Go.Proofs.YtchnllpegfbleaaGreat
namespace Go.Proofs.YtchnllpegfbleaaGreat
set_option linter.unusedSimpArgs false
set_option linter.unusedVariables false
set_option maxHeartbeats 2000000
open Go.RowKit Go.Proofs.Tryz List Go.Lib
def kJ (a b : Int) : Int := ((a.toNat ^^^ b.toNat : Nat) : Int)
theorem rW {a b : Int} (ha : 0 ≤ a ∧ a < 4294967296) (hb : 0 ≤ b ∧ b < 4294967296) : 0 ≤ kJ a b ∧ kJ a b < 4294967296 := by
 have h := Nat.xor_lt_two_pow (n := 32) (x := a.toNat) (y := b.toNat) aE aE
 unfold kJ
 generalize a.toNat ^^^ b.toNat = m at h ⊢
 omega
section
variable {P : Program} {n : Nat} {f : Nat → Value} {W : World} {Q : Exit → Act → World → Prop} {K : Value → World → Prop} {d : Option Tmp} {ty : TypeId} {pos : String} {af : Array Go.Edge} {g : Option (Nat × Bool)} {x y : Operand} {t t' : TypeId}
theorem stp_xor {a b : Nat} (hx : ev n f x = I (a : Int)) (hy : ev n f y = I (b : Int)) (ha : a < 2 ^ 32) (hb : b < 2 ^ 32) (k : K (I ((a ^^^ b : Nat) : Int)) W) : Stp P n ⟨d, .binOp .xor t x y t', ty, pos, af, g⟩ f W Q K :=
 Stp.run (v := I ((a ^^^ b : Nat) : Int)) (by
  have h := Nat.xor_lt_two_pow ha hb
  have hw : IntKind.i64.wrap ((BitVec.ofInt 64 (a : Int) ^^^ BitVec.ofInt 64 (b : Int)).toNat : Int) = ((a ^^^ b : Nat) : Int) := by
   rw [BitVec.toNat_xor, jY a ha, jY b hb]
   exact kW ⟨by omega, by omega⟩
  simp [execOp, hx, hy, go_sem]
  exact hw) k
theorem wA {a b : Int} (hx : ev n f x = I a) (hy : ev n f y = I b) (ha : 0 ≤ a ∧ a < 4294967296) (hb : 0 ≤ b ∧ b < 4294967296) (k : K (I (kJ a b)) W) : Stp P n ⟨d, .binOp .xor t x y t', ty, pos, af, g⟩ f W Q K :=
 stp_xor (tB hx ha.1) (tB hy hb.1) aE aE k
theorem stp_sidx {s : ByteArray} {i : Nat} (hu : P.underlying t = some .string) (hx : ev n f x = .string s) (hy : ev n f y = I (i : Int)) (h : i < s.data.toList.length) (k : K (.int .u8 ((s.data.toList[i]'h).toNat : Int)) W) : Stp P n ⟨d, .index t x y, ty, pos, af, g⟩ f W Q K :=
 Stp.run (v := .int .u8 ((s.data.toList[i]'h).toNat : Int)) (by
  have hs : 0 ≤ (i : Int) ∧ (i : Int) < s.size := ⟨by omega, by have : s.size = s.data.toList.length := rfl; omega⟩
  have := run_index_string (P := P) (w := W) t s .i64 i hu
  rw [dif_pos hs] at this
  simp only [execOp, hx, hy, Sem.run_bind, this, Result.andThen_ok]; rfl) k
theorem stp_b2i {a : Int} (hs : P.underlying t = some (.int .u8)) (hd : P.underlying t' = some (.int .i64)) (hx : ev n f x = .int .u8 a) (h : 0 ≤ a ∧ a < 256) (k : K (I a) W) : Stp P n ⟨d, .convert t t' x, ty, pos, af, g⟩ f W Q K :=
 Stp.run (v := I a) (by
  have hk : P.intKind t' = .i64 := by simp [Program.intKind, hd]
  have hw : IntKind.i64.wrap a = a := kW ⟨by omega, by omega⟩
  have hd' : P.underlying t' = some (.int (P.intKind t')) := by rw [hk]; exact hd
  have := run_convert_int (P := P) W t t' .u8 a (by rw [hs]; rfl) hd'
  rw [hk, hw] at this
  simp only [execOp, hx, Sem.run_bind, this, Result.andThen_ok]; rfl) k
end
theorem Elems.byte1 {W : World} {e : Int} (h : 0 ≤ e ∧ e < 256) : Elems W [.int .u8 e] [UInt8.ofNat e.toNat] [] := by
 have : ((UInt8.ofNat e.toNat).toNat : Int) = e := by simp [UInt8.toNat_ofNat']; omega
 exact Elems.one1 ⟨by show [Value.int .u8 e] = [.int .u8 ((UInt8.ofNat e.toNat).toNat : Int)]; rw [this], rfl, trivial⟩
theorem aH8 (b : UInt8) : 0 ≤ (b.toNat : Int) ∧ (b.toNat : Int) < 256 := by have := b.toNat_lt; omega
def hG (n : Nat) : List UInt8 := if 128 ≤ n then UInt8.ofNat (128 + n % 128) :: hG (n / 128) else [UInt8.ofNat n]
termination_by n
decreasing_by omega
theorem pA {n : Nat} (h : 128 ≤ n) : hG n = UInt8.ofNat (128 + n % 128) :: hG (n / 128) := by rw [hG, if_pos h]
theorem lL {n : Nat} (h : ¬ 128 ≤ n) : hG n = [UInt8.ofNat n] := by rw [hG, if_neg h]
theorem varBytes_len7 : ∀ (d n : Nat), n < 128 ^ (d + 1) → (hG n).length ≤ d + 1 := by
 intro d
 induction d with
 | zero => intro n h; rw [lL (by simpa using h)]; simp
 | succ d ih =>
  intro n h
  by_cases h1 : 128 ≤ n
  ·rw [pA h1, length_cons]
   have := ih (n / 128) (by rw [Nat.div_lt_iff_lt_mul aE]; rw [Nat.pow_succ] at h; exact h)
   omega
  rw [lL h1]; simp
def iF (n : Int) : ByteArray := if inB n 0 1000000000 then ⟨(hG n.toNat).toArray⟩ else ⟨#[]⟩
def pR (s : Int) : Int := if s % 2 = 1 then kJ (s / 2) 3988292384 else s / 2
def oM : Nat → Int → Int
 | 0, s => s
 | k + 1, s => pR (oM k s)
theorem crcBit_rng {s : Int} (h : 0 ≤ s ∧ s < 4294967296) : 0 ≤ pR s ∧ pR s < 4294967296 := by
 unfold pR
 split
 ·exact rW aE aE
 omega
theorem xW {s : Int} (h : 0 ≤ s ∧ s < 4294967296) : ∀ k, 0 ≤ oM k s ∧ oM k s < 4294967296
 | 0 => h
 | k + 1 => crcBit_rng (xW h k)
def mB (l : List UInt8) : Int := l.foldl (fun s b => oM 8 (kJ s (b.toNat : Int))) 4294967295
theorem aD7 (l : List UInt8) : 0 ≤ mB l ∧ mB l < 4294967296 := by
 unfold mB
 have : ∀ (l : List UInt8) (s : Int), 0 ≤ s ∧ s < 4294967296 → 0 ≤ l.foldl (fun s b => oM 8 (kJ s (b.toNat : Int))) s ∧ l.foldl (fun s b => oM 8 (kJ s (b.toNat : Int))) s < 4294967296 := by
  intro l
  induction l with
  | nil => intro s h; exact h
  | cons b l ih => intro s h; exact ih _ (xW (rW h (by have := aH8 b; omega)) 8)
 exact this l _ aE
theorem sumL_to {l : List UInt8} {i : Nat} (h : i < l.length) : mB (l.take (i + 1)) = oM 8 (kJ (mB (l.take i)) (l[i].toNat : Int)) := by
 unfold mB
 rw [take_succ_eq_append_getElem h, foldl_append]; rfl
def uO (t : ByteArray) : Int := kJ (mB t.data.toList) 4294967295
theorem sumOf_rng (t : ByteArray) : 0 ≤ uO t ∧ uO t < 4294967296 := rW (aD7 _) aE
def bL (id : Int) : Int := if iF id = ⟨#[]⟩ then 0 else uO (iF id) % 4
theorem iA (id : Int) : 0 ≤ bL id ∧ bL id < 4 := by unfold bL; split <;> omega
theorem varText_size (id : Int) : (iF id).size ≤ 5 := by
 unfold iF
 split
 ·rename_i h
  rw [inB_iff'] at h
  show (hG id.toNat).toArray.size ≤ 5
  rw [size_toArray]
  exact varBytes_len7 4 _ aE
 exact Nat.zero_le _
end Go.Proofs.YtchnllpegfbleaaGreat
namespace Go.Proofs.YtchnllpegfbleaaGreat
set_option linter.unusedSimpArgs false
set_option linter.unusedVariables false
set_option maxRecDepth 100000
set_option maxHeartbeats 2000000
open Go.RowKit Go.Proofs.Tryz List
variable (w : World) {cs ds : List Value} {fp gp : List Nat}
theorem VarTextI (id : Int) :
  Calls prog 236 #[I id] w fun e w' => e = .returned (.string (iF id)) ∧ St w w' [] := by
 refine cN func236 rfl ntmps236 aZ (wp_seq (aA (sg (aF (v := .string (⟨#[]⟩ : ByteArray)) rfl (aB (wp_seq (wp_seq (aA (rc (St.start w) 3 Ag.nil.put.put [] [(6, .bool (!(inB id 0 1000000000)))] [qc func47 rfl (fun W s b => cF W id 0 1000000000), .o] aD fun f4 t a c d => (aB (bZ (a.at 6) (fun g => ?_) (fun g => ?_))))))))))))
 ·have j := cU (aY g)
  refine wp_seq (aA (sg (aF (v := .string (⟨#[]⟩ : ByteArray)) rfl (aB (wr (bA results236 rfl ?_))))))
  exact ⟨(congrArg (fun z => Ending.returned (.string z)) (by unfold iF; rw [if_neg (by rw [(aY g)]; decide)])), c.bare⟩
 have j := inB_iff'.1 (aX g)
 refine wp_skip (wp_seq (aA (sg (aF (v := .slice none 0 0) rfl (aB (wp_seq (wp_block ?_)))))))
 have t := c.row_nil (α := UInt8) 5
 refine bF (fun (m : Nat) (f : Nat → Value) (W : World) => ∃ (n : Int) (xs : List UInt8) (d : Value), 0 ≤ n ∧ n ≤ 1000000000 ∧ xs ++ hG n.toNat = hG id.toNat ∧ (xs.length : Int) + n ≤ id ∧ m = n.toNat ∧ Ag [(0, I n), (3, d)] f ∧ St w W ([Res.row (α := UInt8) 5 d xs []])) (id.toNat) ?_ ?_
 ·exact ⟨id, [], (.slice none 0 0), aE, aE, rfl, (by simp), rfl, (a.put.to aD), t⟩
 intro c j p q
 obtain ⟨n, xs, d, A, B, hvb, hxl, rfl, C, D⟩ := q
 refine wp_seq (wp_seq (aA (sg (aH (C.at 0) (sg (aK9 rfl rfl (aB (aP rfl (fun E => ?_) (fun E => ?_)))))))))
 ·refine wp_skip (wp_block (wp_seq (aA (rn D 4 C.put.put [] [(9, d), (12, I ((n % 128) + 128))] [qq n 128, qad (n % 128) 128] aD fun t a => (sg (sF aD underlying5 (a.at 12) aE (sg (aU (cs := [.int .u8 ((n % 128) + 128)]) (e := 5) (bR (v := .int .u8 ((n % 128) + 128)) rfl dJ) (bG jG _ _ rfl rfl aZ) D ?_)))))))); intro c j p q
  refine sg (cA (ys := [UInt8.ofNat ((n % 128) + 128).toNat]) jG (a.at 9) rfl rfl q.f1 (Elems.byte1 aE) (by unfold maxLen; omega) aE ?_); intro t A B
  refine sg (aF (v := t) rfl (aB (aA (rn B 3 a.put.put.put.put [0] [(0, I (n / 128))] [qq n 128] aD fun c j => (aB ?_)))))
  exact ⟨_, (n / 128).toNat, aE, rfl, n / 128, xs ++ [UInt8.ofNat (n % 128 + 128).toNat], t, aE, aE, (by rw [← hvb, pA (n := n.toNat) aE, append_assoc]; have p : (n % 128 + 128).toNat = 128 + n.toNat % 128 := aE; have q : (n / 128).toNat = n.toNat / 128 := aE; rw [p, q]; rfl), (by simp only [length_append, length_cons, length_nil]; omega), rfl, (j.to aD), B⟩
 refine wp_exit (wp_seq (aA (sg (aH (C.at 3) (sg (aH (C.at 0) (sg (sF aD underlying5 rfl aE (sg (aU (cs := [.int .u8 n]) (e := 5) (bR (v := .int .u8 n) rfl dJ) (bG jG _ _ rfl rfl aZ) D ?_)))))))))); intro t a c j
 refine sg (cA (ys := [UInt8.ofNat (n).toNat]) jG rfl rfl rfl j.f1 (Elems.byte1 aE) (by unfold maxLen; omega) aE ?_); intro d p q
 refine sg (yR underlying234 underlying5 underlying9 rfl (bX (q.get 0 rfl)) (Below.refl _ _) (sg (aF (v := .string (⟨(xs ++ [UInt8.ofNat (n).toNat]).toArray⟩ : ByteArray)) rfl (aB (wr (bA results236 rfl ?_))))))
 exact ⟨(congrArg (fun z => Ending.returned (.string z)) (by unfold iF; rw [if_pos (aX g), ← hvb, lL aE])), q.bare⟩
theorem tq10_ {P : Prop} (h : P := by
 have hsz : t.size = t.data.toList.length := rfl
 refine cN zq1 rfl zq2 aZ (wp_seq (aA (sg (aG (aB (wp_seq (aA (sg (aG (aB (wp_seq (wp_seq (aA ?_)))))))))))))
 refine sg (aG (aB (wp_block (bF (fun (m : Nat) (f : Nat → Value) (W : World) => ∃ (i : Nat), i ≤ t.data.toList.length ∧ m = t.data.toList.length - i ∧ Ag [(0, .string t), (3, I (mB (t.data.toList.take i))), (4, I (i : Int))] f ∧ St w W ([])) (t.data.toList.length - 0) ?_ ?_))))
 ·exact ⟨0, Nat.zero_le _, rfl, (Ag.nil.put.put.put.put.to aD), (St.start w)⟩
 intro m7 f8 W9 hJ10
 obtain ⟨i, hcd12_0, rfl, hA12, st11⟩ := hJ10
 have hsr := aD7 (t.data.toList.take i)
 have hsz : t.size = t.data.toList.length := rfl
 refine wp_seq (wp_seq (aA (sg (aH (hA12.at 4) (sg (aH (hA12.at 0) (sg (stp_slen underlying9 rfl (sg (bU rfl rfl (aB (aP rfl (fun h17p => ?_) (fun h17p => ?_)))))))))))))
 ·refine wp_skip (wp_seq (wp_block (wp_seq (aA (rn st11 3 hA12.put.put.put.put [] [(13, I (mB (t.data.toList.take i))), (14, .string t), (15, I (i : Int))] [] aD fun f19 h19_ => ?_)))))
  have hi75860 : i < t.data.toList.length := aE
  refine sg (stp_sidx (i := i) underlying9 (h19_.at 14) (h19_.at 15) hi75860 ?_)
  have hbr := aH8 (t.data.toList[i])
  refine sg (stp_b2i underlying5 underlying3 rfl aE (sg (wA (h19_.at 13) rfl aE aE (sg (aF (v := I (kJ (mB (t.data.toList.take i)) ((t.data.toList[i]'hi75860).toNat : Int))) rfl (aB (wp_seq (aA (sg (aG (aB (wp_block (bF (fun (m : Nat) (f : Nat → Value) (W : World) => ∃ (j : Nat), j ≤ 8 ∧ m = 8 - j ∧ Ag [(0, .string t), (3, I (oM j (kJ (mB (t.data.toList.take i)) ((t.data.toList[i]'hi75860).toNat : Int)))), (4, I (i : Int)), (5, I (j : Int))] f ∧ St w W ([])) (8 - 0) ?_ ?_)))))))))))))
  ·exact ⟨0, Nat.zero_le _, rfl, (h19_.put.put.put.put.put.to aD), st11⟩
  intro m24 f25 W26 hJ27
  obtain ⟨j, hcd29_0, rfl, hA29, st28⟩ := hJ27
  have hcr := xW (rW hsr (by omega : 0 ≤ ((t.data.toList[i]).toNat : Int) ∧ ((t.data.toList[i]).toNat : Int) < 4294967296)) j
  refine wp_seq (wp_seq (aA (sg (aH (hA29.at 5) (sg (bU rfl rfl (aB (aP rfl (fun h32p => ?_) (fun h32p => ?_)))))))))
  ·refine wp_skip (wp_seq (wp_block (wp_seq (aA (rn st28 4 hA29.put.put [] [(6, .bool (decide (((oM j (kJ (mB (t.data.toList.take i)) ((t.data.toList[i]'hi75860).toNat : Int))) % 2) = 1)))] [qq (oM j (kJ (mB (t.data.toList.take i)) ((t.data.toList[i]'hi75860).toNat : Int))) 2, .o] aD fun f34 h34_ => (aB (wp_seq (aA (rn st28 3 h34_ [3] [(3, I ((oM j (kJ (mB (t.data.toList.take i)) ((t.data.toList[i]'hi75860).toNat : Int))) / 2))] [qq (oM j (kJ (mB (t.data.toList.take i)) ((t.data.toList[i]'hi75860).toNat : Int))) 2] aD fun f36 h36_ => (aB (wp_seq ?_)))))))))))
   refine aA (sg (aH (h36_.at 6) (aB (aP rfl (fun h39p => ?_) (fun h39p => ?_)))))
   ·refine aA (sg (aH (h36_.at 3) (sg (wA rfl rfl aE aE (sg (aF (v := I (kJ ((oM j (kJ (mB (t.data.toList.take i)) ((t.data.toList[i]'hi75860).toNat : Int))) / 2) 3988292384)) rfl (aB (aA (rn st28 3 h36_.put.put.put.put [5] [(5, I ((j : Int) + 1))] [qad (j : Int) 1] aD fun f45 h45_ => (aB ?_))))))))))
    exact ⟨_, 8 - (j + 1), aE, rfl, j + 1, aE, rfl, (Ag.cons (h45_.at 0) (Ag.cons (Eq.trans (show _ = I (kJ ((oM j (kJ (mB (t.data.toList.take i)) ((t.data.toList[i]'hi75860).toNat : Int))) / 2) 3988292384) from (h45_.at 3)) (show I (kJ ((oM j (kJ (mB (t.data.toList.take i)) ((t.data.toList[i]'hi75860).toNat : Int))) / 2) 3988292384) = _ from congrArg I (by show _ = pR _; unfold pR; rw [if_pos aE]))) (Ag.cons (h45_.at 4) (Ag.cons (h45_.at 5) Ag.nil)))), st28⟩
   refine wp_skip (aA (rn st28 3 h36_.put [5] [(5, I ((j : Int) + 1))] [qad (j : Int) 1] aD fun f47 h47_ => (aB ?_)))
   exact ⟨_, 8 - (j + 1), aE, rfl, j + 1, aE, rfl, (Ag.cons (h47_.at 0) (Ag.cons (Eq.trans (show _ = I ((oM j (kJ (mB (t.data.toList.take i)) ((t.data.toList[i]'hi75860).toNat : Int))) / 2) from (h47_.at 3)) (show I ((oM j (kJ (mB (t.data.toList.take i)) ((t.data.toList[i]'hi75860).toNat : Int))) / 2) = _ from congrArg I (by show _ = pR _; unfold pR; rw [if_neg aE]))) (Ag.cons (h47_.at 4) (Ag.cons (h47_.at 5) Ag.nil)))), st28⟩
  refine wp_exit (aA (rn st28 3 hA29.put.put [4] [(4, I ((i : Int) + 1))] [qad (i : Int) 1] aD fun f49 h49_ => (aB ?_)))
  exact ⟨_, t.data.toList.length - (i + 1), aE, rfl, i + 1, aE, rfl, (Ag.cons (h49_.at 0) (Ag.cons (Eq.trans (show _ = I (oM j (kJ (mB (t.data.toList.take i)) ((t.data.toList[i]'hi75860).toNat : Int))) from (h49_.at 3)) (show I (oM j (kJ (mB (t.data.toList.take i)) ((t.data.toList[i]'hi75860).toNat : Int))) = _ from (congrArg I (by rw [sumL_to aE]; have hj8 : j = 8 := aE; rw [hj8])))) (Ag.cons (h49_.at 4) Ag.nil))), st28⟩
 refine wp_exit (wp_seq (aA (sg (aH (hA12.at 3) (sg (wA rfl rfl aE aE (sg (aF (v := I (kJ (mB (t.data.toList.take i)) 4294967295)) rfl (aB (wr (bA zq3 rfl ?_)))))))))))
 obtain rfl : i = t.data.toList.length := by omega
 exact ⟨(fI (by unfold uO; rw [take_length])), st11.bare⟩) : P := h
theorem SumOfI (t : ByteArray) (ht : t.size ≤ 1048576) :
  Calls prog 237 #[.string t] w fun e w' => e = .returned (I (uO t)) ∧ St w w' [] := by have zq1 := @func237; have zq2 := @ntmps237; have zq3 := @results237; exact tq10_
theorem tq11_ {P : Prop} (h : P := by
 refine cN zq1 rfl zq2 aZ (wp_seq (aA (sg (aG (aB (wp_seq (aA (rc (St.start w) 3 Ag.nil.put.put [] [(3, .string (iF id))] [qc zq3 rfl (fun W s b => zq4 W id)] aD fun f4 W5 h4_ st6 hb7 => (aB (wp_seq (wp_seq (aA ?_))))))))))))
 refine sg (aH (h4_.at 3) (sg (aD8 rfl rfl (aB (aP rfl (fun h10p => ?_) (fun h10p => ?_))))))
 ·refine wp_seq (aA (sg (aG (aB (wr (bA zq5 rfl ?_))))))
  exact ⟨(fI (by unfold bL; rw [if_pos h10p])), st6.bare⟩
 refine wp_skip (wp_seq (aA (rc st6 2 h4_.put.put [] [(9, I (uO (iF id)))] [qc zq6 rfl (fun W s b => zq7 W (iF id) (by have := varText_size id; omega))] aD fun f14 W15 h14_ st16 hb17 => ?_)))
 have hsr := sumOf_rng (iF id)
 refine sg (vI (h14_.at 9) rfl aE aE (sg (aF (v := I ((uO (iF id)) % 4)) rfl (aB (wr (bA zq5 rfl ?_))))))
 exact ⟨(fI (by unfold bL; rw [if_neg h10p])), st16.bare⟩) : P := h
theorem ShelfOfI (id : Int) :
  Calls prog 223 #[I id] w fun e w' => e = .returned (I (bL id)) ∧ St w w' [] := by have zq1 := @func223; have zq2 := @ntmps223; have zq3 := @func236; have zq4 := @VarTextI; have zq5 := @results223; have zq6 := @func237; have zq7 := @SumOfI; exact tq11_
theorem VarTextS (id : Int) :
  Calls prog 233 #[I id] w fun e w' => e = .returned (.string (iF id)) ∧ St w w' [] := by
 refine cN func233 rfl ntmps233 aZ (wp_seq (aA (sg (aF (v := .string (⟨#[]⟩ : ByteArray)) rfl (aB (wp_seq (wp_seq (aA (rc (St.start w) 3 Ag.nil.put.put [] [(6, .bool (!(inB id 0 1000000000)))] [qc func43 rfl (fun W s b => cR W id 0 1000000000), .o] aD fun f4 t a c d => (aB (bZ (a.at 6) (fun g => ?_) (fun g => ?_))))))))))))
 ·have j := cU (aY g)
  refine wp_seq (aA (sg (aF (v := .string (⟨#[]⟩ : ByteArray)) rfl (aB (wr (bA results233 rfl ?_))))))
  exact ⟨(congrArg (fun z => Ending.returned (.string z)) (by unfold iF; rw [if_neg (by rw [(aY g)]; decide)])), c.bare⟩
 have j := inB_iff'.1 (aX g)
 refine wp_skip (wp_seq (aA (sg (aU (cs := []) (e := 5) dJ (bT jG _) c ?_)))); intro t d p q
 have q := q.row_empty (α := UInt8)
 refine sg (aF (v := (.slice (some ⟨t, 0, none⟩) 0 0)) rfl (aB (wp_seq (wp_block (bF (fun (m : Nat) (f : Nat → Value) (W : World) => ∃ (n : Int) (xs : List UInt8) (j : Value), 0 ≤ n ∧ n ≤ 1000000000 ∧ xs ++ hG n.toNat = hG id.toNat ∧ (xs.length : Int) + n ≤ id ∧ m = n.toNat ∧ Ag [(0, I n), (3, j)] f ∧ St w W ([Res.row (α := UInt8) 5 j xs []])) (id.toNat) ?_ ?_)))))
 ·exact ⟨id, [], (.slice (some ⟨t, 0, none⟩) 0 0), aE, aE, rfl, (by simp), rfl, (a.put.put.to aD), q⟩
 intro c d p A
 obtain ⟨n, xs, j, B, C, hvb, hxl, rfl, D, E⟩ := A
 refine wp_seq (wp_seq (aA (sg (aH (D.at 0) (sg (aB2 rfl rfl (aB (aP rfl (fun t => ?_) (fun t => ?_)))))))))
 ·refine wp_skip (wp_block (wp_seq (aA (rn E 4 D.put.put [] [(10, j), (13, I (128 + (n % 128)))] [qq n 128, qad 128 (n % 128)] aD fun a c => (sg (sF aD underlying5 (c.at 13) aE (sg (aU (cs := [.int .u8 (128 + (n % 128))]) (e := 5) (bR (v := .int .u8 (128 + (n % 128))) rfl dJ) (bG jG _ _ rfl rfl aZ) E ?_)))))))); intro t d p q
  refine sg (cA (ys := [UInt8.ofNat (128 + (n % 128)).toNat]) jG (c.at 10) rfl rfl q.f1 (Elems.byte1 aE) (by unfold maxLen; omega) aE ?_); intro a A B
  refine sg (aF (v := a) rfl (aB (aA (rn B 3 c.put.put.put.put [0] [(0, I (n / 128))] [qq n 128] aD fun t d => (aB ?_)))))
  exact ⟨_, (n / 128).toNat, aE, rfl, n / 128, xs ++ [UInt8.ofNat (128 + n % 128).toNat], a, aE, aE, (by rw [← hvb, pA (n := n.toNat) aE, append_assoc]; have p : (128 + n % 128).toNat = 128 + n.toNat % 128 := aE; have q : (n / 128).toNat = n.toNat / 128 := aE; rw [p, q]; rfl), (by simp only [length_append, length_cons, length_nil]; omega), rfl, (d.to aD), B⟩
 refine wp_exit (wp_seq (aA (sg (aH (D.at 3) (sg (aH (D.at 0) (sg (sF aD underlying5 rfl aE (sg (aU (cs := [.int .u8 n]) (e := 5) (bR (v := .int .u8 n) rfl dJ) (bG jG _ _ rfl rfl aZ) E ?_)))))))))); intro t a c d
 refine sg (cA (ys := [UInt8.ofNat (n).toNat]) jG rfl rfl rfl d.f1 (Elems.byte1 aE) (by unfold maxLen; omega) aE ?_); intro j p q
 refine sg (yR underlying234 underlying5 underlying9 rfl (bX (q.get 0 rfl)) (Below.refl _ _) (sg (aF (v := .string (⟨(xs ++ [UInt8.ofNat (n).toNat]).toArray⟩ : ByteArray)) rfl (aB (wr (bA results233 rfl ?_))))))
 exact ⟨(congrArg (fun z => Ending.returned (.string z)) (by unfold iF; rw [if_pos (aX g), ← hvb, lL aE])), q.bare⟩
theorem SumOfS (t : ByteArray) (ht : t.size ≤ 1048576) :
  Calls prog 234 #[.string t] w fun e w' => e = .returned (I (uO t)) ∧ St w w' [] := by have zq1 := @func234; have zq2 := @ntmps234; have zq3 := @results234; exact tq10_
theorem ShelfOfS (id : Int) :
  Calls prog 219 #[I id] w fun e w' => e = .returned (I (bL id)) ∧ St w w' [] := by have zq1 := @func219; have zq2 := @ntmps219; have zq3 := @func233; have zq4 := @VarTextS; have zq5 := @results219; have zq6 := @func234; have zq7 := @SumOfS; exact tq11_
def dV (sh : Nat) (prio rid : Int) : List Int → List (List Entry) → Int → List (List Entry)
 | [], xss, _ => xss
 | t :: ts, xss, seq => dV sh prio rid ts (xss.set sh (kN (xss.getD sh []) ⟨prio, seq, rid, t⟩)) (seq + 1)
theorem mV (sh : Nat) (prio rid t : Int) : ∀ (ts : List Int) (xss : List (List Entry)) (seq : Int), dV sh prio rid (ts ++ [t]) xss seq = (dV sh prio rid ts xss seq).set sh (kN ((dV sh prio rid ts xss seq).getD sh []) ⟨prio, seq + ts.length, rid, t⟩)
 | [], xss, seq => by simp [dV]
 | u :: ts, xss, seq => by
  have h := mV sh prio rid t ts (xss.set sh (kN (xss.getD sh []) ⟨prio, seq, rid, u⟩)) (seq + 1)
  simp only [cons_append, dV]
  rw [h, show seq + 1 + (ts.length : Int) = seq + ((u :: ts).length : Int) by simp; omega]
theorem kK (sh : Nat) (prio rid : Int) : ∀ (ts : List Int) (xss : List (List Entry)) (seq : Int), (dV sh prio rid ts xss seq).length = xss.length
 | [], xss, seq => rfl
 | u :: ts, xss, seq => by simp only [dV]; rw [kK]; simp
theorem kL (sh : Nat) (prio rid : Int) : ∀ (ts : List Int) (xss : List (List Entry)) (seq : Int), sh < xss.length → ((dV sh prio rid ts xss seq).getD sh []).length = (xss.getD sh []).length + ts.length
 | [], xss, seq, h => rfl
 | u :: ts, xss, seq, h => by
  simp only [dV]
  rw [kL sh prio rid ts _ _ (by simpa using h)]
  rw [getD_eq_getElem?_getD, getElem?_set_self h]
  simp [aF4]
  omega
theorem stockL_to {sh : Nat} {prio rid seq : Int} {ts : List Int} {xss : List (List Entry)} {k : Nat} {t : Int} (h : ts[k]? = some t) : dV sh prio rid (ts.take (k + 1)) xss seq = (dV sh prio rid (ts.take k) xss seq).set sh (kN ((dV sh prio rid (ts.take k) xss seq).getD sh []) ⟨prio, seq + k, rid, t⟩) := by
 obtain ⟨hl, rfl⟩ := gsi_.1 h
 rw [take_succ_eq_append_getElem hl, mV, length_take, Nat.min_eq_left aE]
theorem getD_some {α : Type} {xss : List (List α)} {k : Nat} (h : k < xss.length) : xss[k]? = some (xss.getD k []) := by
 rw [getD_eq_getElem?_getD, getElem?_eq_getElem h]; rfl

theorem aP6 {w W0 : World} {rs : List Res} {b : Nat} {now seq rid prio most wait tk stt : Int} {vs vr ve vt vq : Value} {xss : List (List Entry)} {fp fq : List Nat} {ts : List Int} (hst : St w W0 (Res.bx b [I now, I seq, vs, vr] 34 :: Res.own vs xss fp :: rs)) (hT : ∀ W', St w W' rs → Sl W' vq ts fq) (hss : 4 ≤ xss.length) (hln : (xss.getD (bL rid).toNat []).length + ts.length ≤ 1048576) (hsq : 0 ≤ seq ∧ seq ≤ 4000000000) (hpr : I64 prio) (hri : I64 rid) :
  Calls prog 176 #[pt_ b, .agg #[I rid, I prio, I most, I wait, I tk, ve, I stt, vt], vq] W0 fun e w' => ∃ (fp' : List Nat), e = .returned (.tuple #[]) ∧ St w w' (Res.bx b [I now, I (seq + ts.length), vs, vr] 34 :: Res.own vs (dV (bL rid).toNat prio rid ts xss seq) fp' :: rs) := by
 have hsr := iA rid
 have hTl := (hT _ (St.dropn 2 hst)).len_le
 refine iS func176 rfl ntmps176 aZ (wp_seq (aA (sg (aI (cs := [I rid, I prio, I most, I wait, I tk, ve, I stt, vt]) rfl hst ?_)))); intro t a c d
 refine aB (wp_seq (aA (rc d 4 Ag.nil.put.put.put.put [] [(6, I (bL rid))] [qb 0 rfl 0, qc func223 rfl (fun W s b => ShelfOfI W rid)] aD fun f7 g j n p => (aB (wp_seq (aA (rn n 3 j [] [(12, vq), (13, I (ts.length : Int)), (14, I 0)] [ql (hT _ (St.dropn 3 n))] aD fun f12 a => (aB (wp_block (bF (fun (m : Nat) (f : Nat → Value) (W : World) => ∃ (k : Nat) (q : List Nat), k ≤ ts.length ∧ m = ts.length - k ∧ Ag [(0, pt_ b), (4, pt_ t), (6, I (bL rid)), (12, vq), (13, I (ts.length : Int)), (14, I (k : Int))] f ∧ St w W (Res.bx t [I rid, I prio, I most, I wait, I tk, ve, I stt, vt] 123 :: Res.bx b [I now, I (seq + (k : Int)), vs, vr] 34 :: Res.own (α := List (List Entry)) vs (dV (bL rid).toNat prio rid (ts.take k) xss seq) q :: rs)) (ts.length - 0) ?_ ?_))))))))))
 ·exact ⟨0, fp, Nat.zero_le _, rfl, (a.to aD), (by simpa [dV] using n)⟩
 intro c f15 z d
 obtain ⟨k, q, g, rfl, A, B⟩ := d
 have hzl := kK (bL rid).toNat prio rid (ts.take k) xss seq
 have hzg := kL (bL rid).toNat prio rid (ts.take k) xss seq aE
 rw [length_take] at hzg
 refine wp_seq (aA (sg (bU (A.at 14) (A.at 13) (aB (wp_seq (aP rfl (fun a => ?_) (fun a => ?_)))))))
 ·refine wp_skip (wp_seq (wp_block (wp_seq (aA ?_))))
  have htk : ts[k]? = some (ts[k]) := getElem?_eq_getElem aE
  have c : k < ts.length := (gsi_.1 htk).1
  have D := eB (hT _ (St.dropn 3 B)) (i := k) htk
  obtain ⟨d, g, j, n, E, F, a, p⟩ := D
  have G := a
  obtain ⟨rfl, rfl, H⟩ := G
  refine rn B 3 A.put [] [(8, I (ts[k]))] [qx E, qn F 0] aD fun c J => (aB (wp_seq ?_))
  have K : (bL rid).toNat < (dV (bL rid).toNat prio rid (ts.take k) xss seq).length := (gsi_.1 (getD_some (xss := dV (bL rid).toNat prio rid (ts.take k) xss seq) (k := (bL rid).toNat) aE)).1
  have D := eB (aM (B.get 2 rfl)) (i := (bL rid).toNat) (getD_some (xss := dV (bL rid).toNat prio rid (ts.take k) xss seq) (k := (bL rid).toNat) aE)
  obtain ⟨L, M, a, c, N, O, d, g⟩ := D
  have P := d
  obtain ⟨j, rfl, n⟩ := P
  refine cK 24 [(some 23, none, .of (ι := Value × List Nat) [41] (fun ⟨R, a⟩ => [R]) (fun ⟨R, a⟩ => Res.own (α := List Entry) R (kN ((dV (bL rid).toNat prio rid (ts.take k) xss seq).getD (bL rid).toNat []) (⟨prio, seq + (k : Int), rid, (ts[k])⟩ : Entry)) a))] [(true, .is (pt_ b)), (true, .is (pt_ b)), (true, .is (.pointer (some ⟨b, 0 + 2, none⟩))), (true, .is (vs)), (true, .is (I (bL rid))), (true, .is (pt_ b)), (true, .is (pt_ b)), (true, .is (.pointer (some ⟨b, 0 + 2, none⟩))), (true, .is (vs)), (true, .is (I (bL rid))), (true, .is (.pointer (some ⟨L, M, none⟩))), (true, .is (j)), (true, .is (.pointer (some ⟨t, 0 + 1, none⟩))), (true, .is (.pointer (some ⟨t, 0 + 1 + 0, none⟩))), (true, .is (I prio)), (true, .is (pt_ b)), (true, .is (pt_ b)), (true, .is (.pointer (some ⟨b, 0 + 1, none⟩))), (true, .is (I (seq + (k : Int)))), (true, .is (.pointer (some ⟨t, 0 + 0, none⟩))), (true, .is (I rid)), (true, .is (I (ts[k]))), (true, .is (.agg #[I prio, I (seq + (k : Int)), I rid, I (ts[k])])), (false, .ex (fun (R : Value) => R))] mix aD aD aD aD (rs0 := []) rfl B (Below.refl _ _) ⟨(mq_ (J.at 0)), (fun f W hst hbl hd hf => gP (hd 0 18 rfl rfl) brq), (fun f W hst hbl hd hf => aN eC (hd 1 19 rfl rfl) brq), (fun f W hst hbl hd hf => aW eF rfl (hd 2 20 rfl rfl) (hst.get 1 rfl) (i := 2) rfl rfl brq), (mq_ (J.at 6)), (mq_ (J.at 0)), (fun f W hst hbl hd hf => gP (hd 5 23 rfl rfl) brq), (fun f W hst hbl hd hf => aN eC (hd 6 24 rfl rfl) brq), (fun f W hst hbl hd hf => aW eF rfl (hd 7 25 rfl rfl) (hst.get 1 rfl) (i := 2) rfl rfl brq), (mq_ (J.at 6)), (fun f W hst hbl hd hf => aT eO (hd 8 26 rfl rfl) N (hd 9 27 rfl rfl) aE brq), (fun f W hst hbl hd hf => dP jD rfl (hd 10 28 rfl rfl) O hbl (i := 0) rfl rfl brq), (fq_ lD (J.at 4)), (fun f W hst hbl hd hf => aN uF (hd 12 30 rfl rfl) brq), (fun f W hst hbl hd hf => aW dA rfl (hd 13 31 rfl rfl) (hst.get 0 rfl) (i := 1) rfl rfl brq), (mq_ (J.at 0)), (fun f W hst hbl hd hf => gP (hd 15 33 rfl rfl) brq), (fun f W hst hbl hd hf => aN uD (hd 16 34 rfl rfl) brq), (fun f W hst hbl hd hf => aW dA rfl (hd 17 35 rfl rfl) (hst.get 1 rfl) (i := 1) rfl rfl brq), (fq_ pQ (J.at 4)), (fun f W hst hbl hd hf => aW dA rfl (hd 19 37 rfl rfl) (hst.get 0 rfl) (i := 0) rfl rfl brq), (mq_ (J.at 8)), (fun f W hst hbl hd hf => dD (vs := [(0, I prio), (1, I (seq + (k : Int))), (2, I rid), (3, I (ts[k]))]) (cs := [I prio, I (seq + (k : Int)), I rid, I (ts[k])]) (bR (v := I prio) (hd 14 32 rfl rfl) (bR (v := I (seq + (k : Int))) (hd 18 36 rfl rfl) (bR (v := I rid) (hd 20 38 rfl rfl) (bR (v := I (ts[k])) (hd 21 39 rfl rfl) dJ)))) aD brq), ?_, trivial⟩ ?_
  ·intro f W ru oth hu hst hbl hd hf
   have c : ru = [] := hu
   subst c
   try simp only [cap_, cL] at hst
   refine (bN func192 rfl (hd 11 29 rfl rfl) (hd 22 40 rfl rfl) ((aA3 W (n.below hbl) (show Shape.C _ [I prio, I (seq + (k : Int)), I rid, I (ts[k])] (⟨prio, seq + (k : Int), rid, (ts[k])⟩ : Entry) [] from ⟨rfl, rfl, fF⟩) aE).mono ?_)); rintro _ d ⟨R, a, rfl, g⟩; refine ⟨_, rfl, ?_⟩
   have j := St.call hst g
   exact ⟨⟨R, rfl⟩, ⟨_, ⟨_, _, rfl, ⟨(R, a), (ce rfl rfl), rfl⟩, rfl⟩, j⟩, (hbl.trans (Below.mono g.below hbl.size))⟩
  intro S n rs_ hAL_ p q T U
  obtain ⟨_, _, rfl, ⟨⟨R, a⟩, d, rfl⟩, c⟩ := hAL_
  have c : _ = [] := c
  subst c
  have X : S 41 = R := congrArg (fun l => l.getD 0 undef) d
  try simp only [cap_, cL] at p
  have g := p.f3
  have D := St.lendx (α := List Entry) aZ g (x := (dV (bL rid).toNat prio rid (ts.take k) xss seq).getD (bL rid).toNat []) (getD_some aE)
  obtain ⟨a, c, j, n, post44, q, z, Y, d, A⟩ := D
  have D := A.f1.uncs1
  obtain ⟨E, Z, a0⟩ := D; subst Z
  refine sg (aT eO (T 3 21 aZ rfl) Y (T 4 22 aZ rfl) aE (sgn (bS (i := 0) (v := R) aD rfl X (Sl.cells (aM (a0.f1.get 3 rfl))) (Sl.one (aM (a0.f1.get 3 rfl))) a0.f1 rfl bH rfl ?_))); intro a c
  refine aB (aA (rn c 7 (Ag.cons (show S 0 = pt_ b from ((U 0 rfl).trans (J.at 0))) (Ag.cons (show S 4 = pt_ t from ((U 4 rfl).trans (J.at 4))) (Ag.cons (show S 6 = I (bL rid) from ((U 6 rfl).trans (J.at 6))) (Ag.cons (show S 12 = vq from ((U 12 rfl).trans (J.at 12))) (Ag.cons (show S 13 = I (ts.length : Int) from ((U 13 rfl).trans (J.at 13))) (Ag.cons (show S 14 = I (k : Int) from ((U 14 rfl).trans (J.at 14))) Ag.nil)))))).put [] [(47, I ((seq + (k : Int)) + 1)), (49, .pointer (some ⟨b, 1, none⟩))] [qb 5 rfl 1, qad (seq + (k : Int)) 1] aD fun t a => (sgn (aO (v := I ((seq + (k : Int)) + 1)) aD (a.at 49) (a.at 47) rfl rfl c.f5 bH rfl ?_)))); intro d g
  refine aB (aA (sg (bO (a.at 14) rfl dL (sg (aH (v := I ((k : Int) + 1)) rfl (aB ?_))))))
  have t := g.f4.cs1
  have D := St.give (α := List Entry) t.f4.f1.f3
  obtain ⟨j, n⟩ := D
  exact ⟨_, ts.length - (k + 1), aE, rfl, k + 1, j, aE, rfl, (a.put.put.to aD), (by rw [stockL_to htk, show seq + ((k + 1 : Nat) : Int) = seq + (k : Int) + 1 by omega]; exact n.f1.f3.d3)⟩
 refine wp_exit ?_
 repeat (first | refine iO ?_ | refine jN ?_ | refine iP rfl ?_)
 refine yK results176 ?_
 have hke : k = ts.length := by omega
 rw [hke, take_length] at B
 have t := B.f2
 exact ⟨_, rfl, t.f2.d2⟩

def kF (r r' : Run) : List Int := (bI r'.tasks 2).filter (fun t => !decide (t ∈ bI r.tasks 2))
theorem mZ (r r' : Run) : (kF r r').length ≤ r'.tasks.length := Nat.le_trans (length_filter_le _ _) (iV _ _ _)
theorem sI {α : Type} {xs : List α} {k : Nat} {x : α} (h : xs[k]? = some x) (y : α) : (xs.set k y)[k]? = some y := getElem?_set_self (gsi_.1 h).1
theorem tasksIn_mem {ts : List Task} {s i : Int} (h : i ∈ bI ts s) : 0 ≤ i ∧ i < ts.length := by
 unfold bI iG at h
 rw [mem_filterMap] at h
 obtain ⟨a, ha, h⟩ := h
 rw [mem_range] at ha
 split at h
 ·simp only [Option.some.injEq] at h; omega
 cases h
theorem tin_i64 {ts : List Task} {s : Int} {j : Nat} (hl : ts.length ≤ 1000) (hj : j < (bI ts s).length) : I64 (bI ts s)[j] := by
 have := tasksIn_mem (getElem_mem hj)
 unfold I64; omega

theorem vQ {w W0 : World} {rs : List Res} {b k : Nat} {y : Yard} {r r' : Run} {vs vr : Value} {fp fq : List Nat} {F : FuncId} {capt : List Value} {fn : Func} (hst : St w W0 (Res.bx b [I y.now, I y.seq, vs, vr] 34 :: Res.own vs y.shelf fp :: Res.own vr y.runs fq :: rs)) (hr : y.runs[k]? = some r) (hrl : r.tasks.length ≤ 1000) (hrl' : r'.tasks.length ≤ 1000) (hrk : r'.ok) (hss : 4 ≤ y.shelf.length) (hln : (y.shelf.getD (bL r'.id).toNat []).length ≤ 1000000) (hsq0 : 0 ≤ y.seq ∧ y.seq ≤ 4000000000)
  (hfn : prog.funcs[F]? = some fn) (hok : ((fn.name == "runtime.NumGoroutine") || fn.body.isNone) = false)
  (hF : ∀ (W1 : World) (rs1 : List Res) (b1 : Nat) (pre1 cs1 post1 : List Value) (fp1 : List Nat) (ty1 : TypeId), (∀ W', St w W' rs1 → St w W' rs) → St w W1 (Res.bx b1 (pre1 ++ cs1 ++ post1) ty1 :: Res.own (.agg cs1.toArray) r fp1 :: rs1) → Calls prog F (Value.pointer (some ⟨b1, pre1.length, none⟩) :: capt).toArray W1 fun e w' => ∃ (cs' : List Value) (fp' : List Nat), e = .returned (.tuple #[]) ∧ St w w' (Res.bx b1 (pre1 ++ cs' ++ post1) ty1 :: Res.own (.agg cs'.toArray) r' fp' :: rs1)) :
  Calls prog 110 #[pt_ b, I (k : Int), .func (.func F) #[] capt.toArray] W0 fun e w' => ∃ (fp' fq' : List Nat), e = .returned (.tuple #[]) ∧ St w w' (Res.bx b [I y.now, I (y.seq + (kF r r').length), vs, vr] 34 :: Res.own vs (dV (bL r'.id).toNat r'.plan.prio r'.id (kF r r') y.shelf y.seq) fp' :: Res.own vr (y.runs.set k r') fq' :: rs) := by
 have hkl := (gsi_.1 hr).1
 have hfb : (bI r'.tasks 2).length ≤ r'.tasks.length := iV r'.tasks 2 r'.tasks.length
 have hsr := iA r'.id
 have hff := mZ r r'
 refine iS func110 rfl ntmps110 aZ (wp_seq (aA ?_))
 have a : k < y.runs.length := (gsi_.1 hr).1
 have c := eB (aM (hst.get 2 rfl)) (i := k) hr
 obtain ⟨d, g, n, f2, p, q, z, A⟩ := c
 refine rn hst 7 Ag.nil.put.put.put [] [(16, .agg n.toArray)] [qb 0 rfl 3, qx p, qtw q (Below.refl _ _) (Shape.len z)] aD fun f3 a => (sg (bN func162 rfl (a.at 16) rfl ((mP W0 z 2 aE).mono ?_))); rintro _ d ⟨B, g, rfl, C⟩; refine ⟨_, rfl, ?_⟩
 have A := St.call hst C
 refine sg (aF (v := B) rfl (aB (wp_seq (aA (rn A 6 a.put.put [] [(18, .func (.func F) #[] capt.toArray), (22, vr), (23, I (k : Int))] [qb 1 rfl 3] aD fun f13 n => ?_)))))
 have c := St.lendx (α := Run) aZ A.f3 (x := r) hr
 obtain ⟨d, p, q, z, post15, C, D, E, G, H⟩ := c
 have J := H.f1.uncs rfl
 refine sg (aT dS (n.at 22) E (n.at 23) rfl (sg (tU (first := []) hfn hok (n.at 18) (pJ (v := .pointer (some ⟨d, q.length, none⟩)) rfl nZ) ((hF _ (Res.rest (α := Run) vr d q post15 y.runs k D :: Res.own (α := List Int) B (bI r.tasks 2) g :: Res.bx b [I y.now, I y.seq, vs, vr] 34 :: Res.own (α := List (List Entry)) vs y.shelf fp :: rs) _ _ _ _ _ _ (fun W_ h_ => h_.dropn 4) J.f1).mono ?_)))); rintro _ a ⟨d, p, rfl, q⟩; refine ⟨_, rfl, ?_⟩
 refine aB (wp_seq (aA (sg (aF (v := .slice none 0 0) rfl (aB (wp_seq (wp_seq (aA ?_))))))))
 have z := q.f1.cs rfl
 have c := St.give (α := Run) z.f2.f1.f2
 obtain ⟨A, C⟩ := c
 have K : k < ((y.runs).set k r').length := (gsi_.1 (sI hr r')).1
 have c := eB (aM (C.get 0 rfl)) (i := k) (sI hr r')
 obtain ⟨d, p, D, E, G, H, q, J⟩ := c
 refine rn C 7 n.put.put.put [] [(32, .agg D.toArray)] [qb 2 rfl 3, qx G, qtw H (Below.refl _ _) (Shape.len q)] aD fun z L => (sg (bN func162 rfl (L.at 32) rfl ((mP a q 2 aE).mono ?_))); rintro _ d ⟨p, E, rfl, M⟩; refine ⟨_, rfl, ?_⟩
 have J := St.call C M
 refine sg (eY eG rfl (aM (J.get 0 rfl)) (sg (aH (v := I 0) rfl (aB (wp_block ?_)))))
 have n := J.row_nil (α := Int) 3
 refine bF (fun (m : Nat) (f : Nat → Value) (W : World) => ∃ (j : Nat) (N : Value), j ≤ (bI r'.tasks 2).length ∧ m = (bI r'.tasks 2).length - j ∧ Ag [(0, pt_ b), (1, I (k : Int)), (6, B), (7, N), (33, p), (34, I ((bI r'.tasks 2).length : Int)), (35, I (j : Int))] f ∧ St w W (Res.row (α := Int) 3 N (((bI r'.tasks 2).take j).filter (fun t => !decide (t ∈ bI r.tasks 2))) [] :: Res.own (α := List Int) p (bI r'.tasks 2) E :: Res.own (α := List Run) vr ((y.runs).set k r') A :: Res.own (α := List Int) B (bI r.tasks 2) g :: Res.bx b [I y.now, I y.seq, vs, vr] 34 :: Res.own (α := List (List Entry)) vs y.shelf fp :: rs)) ((bI r'.tasks 2).length - 0) ?_ ?_
 ·exact ⟨0, (.slice none 0 0), Nat.zero_le _, rfl, (L.put.put.put.to aD), n⟩
 intro a d p q
 obtain ⟨j, N, z, rfl, O, P⟩ := q
 have hfl_ := length_filter_le (fun t => !decide (t ∈ bI r.tasks 2)) ((bI r'.tasks 2).take j)
 rw [length_take] at hfl_
 refine wp_seq (aA (sg (bU (O.at 35) (O.at 34) (aB (wp_seq (aP rfl (fun g => ?_) (fun g => ?_)))))))
 ·refine wp_skip (wp_seq (wp_block (wp_seq (aA ?_))))
  have a : j < (bI r'.tasks 2).length := (gsi_.1 (getElem?_eq_getElem aE)).1
  have c := eB (aM (P.get 1 rfl)) (i := j) (getElem?_eq_getElem aE)
  obtain ⟨d, n, p, q, R, S, z, A⟩ := c
  have T := z
  obtain ⟨rfl, rfl, g⟩ := T
  refine rn P 3 O.put [] [(9, I ((bI r'.tasks 2)[j]'(by omega)))] [qx R, qn S 0] aD fun a C => (aB (wp_seq (aA (rc P 4 C [] [(42, .bool (!decide (((bI r'.tasks 2)[j]'(by omega)) ∈ (bI r.tasks 2))))] [qc (args := [B, I ((bI r'.tasks 2)[j]'(by omega))]) (v := .bool (decide (((bI r'.tasks 2)[j]'(by omega)) ∈ (bI r.tasks 2)))) func75 rfl (fun W s b => aQ2 W (aM (s.get 3 rfl)) ((bI r'.tasks 2)[j]'(by omega))), .o] aD fun a d g n p => (aB (cQ (g.at 42) (fun q => ?_) (fun q => ?_)))))))
  ·have z := gL q
   refine aA (sg (aH (g.at 7) (sg (aH (v := I ((bI r'.tasks 2)[j]'(by omega))) (g.at 9) (sg (aU (cs := [I ((bI r'.tasks 2)[j]'(by omega))]) (e := 3) (bR (v := I ((bI r'.tasks 2)[j]'(by omega))) rfl dJ) (bG cP _ _ rfl rfl aZ) n ?_)))))); intro a d p A
   refine sg (cA (ys := [((bI r'.tasks 2)[j]'(by omega))]) cP rfl rfl rfl A.f1 (Elems.int1 (tin_i64 hrl' aE)) (by unfold maxLen; omega) aE ?_); intro B C D
   refine sg (aF (v := B) rfl (aB (aA (sg (bO (g.at 35) rfl dL (sg (aH (v := I ((j : Int) + 1)) rfl (aB ?_))))))))
   exact ⟨_, (bI r'.tasks 2).length - (j + 1), aE, rfl, j + 1, B, aE, rfl, (g.put.put.put.put.put.put.put.to aD), (by rw [aM0 aE (z)]; exact D)⟩
  have z := gM q
  refine wp_skip (aA (sg (bO (g.at 35) rfl dL (sg (aH (v := I ((j : Int) + 1)) rfl (aB ?_))))))
  exact ⟨_, (bI r'.tasks 2).length - (j + 1), aE, rfl, j + 1, N, aE, rfl, (g.put.put.to aD), (by rw [zK aE (z)]; exact n)⟩
 refine wp_exit ?_
 have hje : j = (bI r'.tasks 2).length := by omega
 have hfe : ((bI r'.tasks 2).take j).filter (fun t => !decide (t ∈ bI r.tasks 2)) = kF r r' := by rw [hje, take_length]; rfl
 rw [hfe] at P
 have hsq : 0 ≤ y.seq ∧ y.seq ≤ 4000000000 := hsq0
 have hpr : I64 r'.plan.prio := hrk.2.1.1
 have hri : I64 r'.id := hrk.1
 refine aA ?_
 have K : k < ((y.runs).set k r').length := (gsi_.1 (sI hr r')).1
 have c := eB (aM (P.get 2 rfl)) (i := k) (sI hr r')
 obtain ⟨a, d, g, n, p, q, z, A⟩ := c
 refine rn P 9 O.put [] [(48, pt_ b), (55, .agg g.toArray), (56, N)] [qb 4 rfl 3, qx p, qtw q (Below.refl _ _) (Shape.len z)] aD fun B U => ?_
 have X := z
 obtain ⟨C, D, E, a, rfl, d, n, G, rfl⟩ := X
 have c := P.f5
 refine sg (eL func176 rfl (U.at 48) (U.at 55) (U.at 56) ((aP6 c.f5 (fun W_ h_ => bX (h_.get 0 rfl))  hss aE hsq hpr hri).mono ?_)); rintro _ g ⟨p, rfl, q⟩; refine ⟨_, rfl, ?_⟩
 refine aB ?_
 repeat (first | refine iO ?_ | refine jN ?_ | refine iP rfl ?_)
 refine yK results110 ?_
 exact ⟨_, _, rfl, q.f4.f2.f2.d3.d3.d3⟩
def cZ (y : Yard) (k : Nat) (r r' : Run) : Yard := ⟨y.now, y.seq + ((kF r r').length : Int), dV (bL r'.id).toNat r'.plan.prio r'.id (kF r r') y.shelf y.seq, y.runs.set k r'⟩
def mR (out : Yard) (k i : Nat) : Yard := match out.runs[k]? with
 | none => out
 | some r => match r.tasks[i]? with
  | none => out
  | some t => if t.state = 3 then cZ out k r (cS r i) else out
def eZ (y : Yard) (k : Nat) : Nat → Yard
 | 0 => y
 | i + 1 => mR (eZ y k i) k i
def tQ (y : Yard) (k : Nat) : Nat := match y.runs[k]? with | some r => r.tasks.length | none => 0
def dR (y : Yard) : Nat → Yard
 | 0 => y
 | k + 1 => eZ (dR y k) k (tQ y k)
noncomputable def eU (y : Yard) : Yard := if dB y then dR y y.runs.length else y
theorem tP {y : Yard} {k : Nat} {r : Run} (h : y.runs[k]? = some r) : tQ y k = r.tasks.length := by unfold tQ; rw [h]

structure YardIs (y : Yard) : Prop where
 now : 0 ≤ y.now ∧ y.now ≤ 999999980
 seq : 1 ≤ y.seq ∧ y.seq ≤ 1000000000
 shelf : y.shelf.length = 4
 runs : y.runs.length ≤ 8
 each : ∀ l ∈ y.shelf, fM l = true
 run : ∀ (j : Nat) (r : Run), y.runs[j]? = some r → RunIs r ∧ eQ y r.id = some j
theorem iE {y : Yard} (h : dB y = true) : YardIs y := by
 unfold dB at h
 rw [pB_iff] at h
 obtain ⟨s, t, c, d, e, g, n, p, q⟩ := h
 refine ⟨s, t, c, d, e, fun j r hj => ?_⟩
 obtain ⟨hl, rfl⟩ := gsi_.1 hj
 obtain ⟨a, b, _⟩ := p j hl hl
 refine ⟨runIs.1 a, ?_⟩
 unfold bJ at b
 cases hq : eQ y y.runs[j].id with
 | none => rw [hq] at b; simp only [ixI] at b; omega
 | some k => rw [hq] at b; simp only [ixI] at b; congr 1; omega
theorem RunIs.small {r : Run} (h : RunIs r) : r.ok ∧ r.tasks.length ≤ 12 ∧ r.plan.edges.length ≤ 30 := by
 have s := (lI h.plan).1
 have hl := h.len
 have hs := h.state
 have hid := h.id
 unfold dE at s
 have hst : 0 ≤ eN r.tasks ∧ eN r.tasks ≤ 4 := by
  unfold eN
  split
  ·omega
  split
  ·omega
  split
  ·omega
  split <;> omega
 refine ⟨⟨by unfold I64; omega, ?_, by unfold I64; omega⟩, by omega, by omega⟩
 unfold Plan.ok
 refine ⟨?_, ?_, ?_, ?_⟩ <;> (unfold I64; omega)
theorem kZ {xs : List Entry} (h : fM xs = true) : xs.length ≤ 80 := by
 unfold fM at h
 first | exact (pB_iff.1 h).1 | exact (pB_iff.1 h).2 | (simp at h; omega)
theorem zC {α β : Type} {p : α → Bool} {q : β → Bool} : ∀ {xs : List α} {ys : List β}, xs.length = ys.length → (∀ (j : Nat) (x : α) (y : β), xs[j]? = some x → ys[j]? = some y → p x = q y) → fW p xs = fW q ys
 | [], [], _, _ => rfl
 | x :: xs, y :: ys, hl, h => by
  have h0 := h 0 x y rfl rfl
  have ih := zC (xs := xs) (ys := ys) (by simpa using hl) (fun j a b ha hb => h (j + 1) a b (by simpa using ha) (by simpa using hb))
  unfold fW
  rw [h0, ih]
 | [], _ :: _, hl, _ => by simp at hl
 | _ :: _, [], hl, _ => by simp at hl
structure RI (y out : Yard) (n : Nat) : Prop where
 now : out.now = y.now
 seq : y.seq ≤ out.seq ∧ out.seq ≤ y.seq + 12 * (n : Int)
 shelf : out.shelf.length = y.shelf.length
 each : ∀ s, s < 4 → (out.shelf.getD s []).length ≤ 80 + 12 * n
 runs : out.runs.length = y.runs.length
 run : ∀ (j : Nat) (r : Run), y.runs[j]? = some r → ∃ r2 : Run, out.runs[j]? = some r2 ∧ RunIs r2 ∧ r2.id = r.id ∧ r2.tasks.length = r.tasks.length ∧ ∀ (i : Nat) (t : Task), r.tasks[i]? = some t → ∃ t2, r2.tasks[i]? = some t2 ∧ t2.try_ = t.try_
theorem RI.start {y : Yard} (h : YardIs y) : RI y y 0 := by
 refine ⟨rfl, by omega, rfl, fun s hs => ?_, rfl, fun j r hj => ⟨r, hj, (h.run j r hj).1, rfl, rfl, fun i t ht => ⟨t, ht, rfl⟩⟩⟩
 have hl := h.shelf
 rw [getD_eq_getElem?_getD, getElem?_eq_getElem aE]
 have := kZ (h.each y.shelf[s] (getElem_mem _))
 simpa using this
theorem RI.mono {y out : Yard} {n m : Nat} (h : RI y out n) (hm : n ≤ m) : RI y out m :=
 ⟨h.now, by have := h.seq; omega, h.shelf, fun s hs => by have := h.each s hs; omega, h.runs, h.run⟩
theorem lN (sh : Nat) (prio rid : Int) (s : Nat) (hs : s ≠ sh) : ∀ (ts : List Int) (xss : List (List Entry)) (seq : Int), (dV sh prio rid ts xss seq).getD s [] = xss.getD s []
 | [], xss, seq => rfl
 | u :: ts, xss, seq => by
  simp only [dV]
  rw [lN sh prio rid s hs ts]
  rw [getD_eq_getElem?_getD, getElem?_set_ne (fun e => hs e.symm), getD_eq_getElem?_getD]
theorem RI.change {y out : Yard} {n k i : Nat} {r : Run} {t : Task} (hy : YardIs y) (h : RI y out n) (hr : out.runs[k]? = some r) (ht : r.tasks[i]? = some t) (h3 : t.state = 3) (hR : RunIs r) : RI y (cZ out k r (cS r i)) (n + 1) := by
 obtain ⟨b, c, d, g⟩ := oI r i
 have hsm := hR.small
 have hfl := mZ r (cS r i)
 have hsh := hy.shelf
 have hsr := iA (cS r i).id
 have hkl := (gsi_.1 hr).1
 refine ⟨h.now, ?_, ?_, ?_, ?_, ?_⟩
 ·show y.seq ≤ out.seq + _ ∧ out.seq + _ ≤ _
  have := h.seq; omega
 ·show (dV _ _ _ _ _ _).length = _
  rw [kK]; exact h.shelf
 ·intro s hs
  show ((dV _ _ _ _ _ _).getD s []).length ≤ _
  by_cases e : s = (bL (cS r i).id).toNat
  ·subst e
   rw [kL _ _ _ _ _ _ (by rw [h.shelf]; omega)]
   have := h.each _ hs
   omega
  rw [lN _ _ _ s e]
  have := h.each s hs
  omega
 ·show (out.runs.set k _).length = _
  rw [length_set]; exact h.runs
 intro j r0 hj
 obtain ⟨p, q, z, A, B, C⟩ := h.run j r0 hj
 show ∃ p, (out.runs.set k _)[j]? = some p ∧ _
 by_cases e : k = j
 ·subst e
  rw [hr] at q
  have D := Option.some.inj q
  subst D
  refine ⟨cS r i, getElem?_set_self hkl, hR.fails ht h3, by rw [b]; exact A, by rw [d]; exact B, fun a u hu => ?_⟩
  obtain ⟨c, E, F⟩ := C a u hu
  obtain ⟨G, H, J⟩ := g a c E
  exact ⟨G, H, by rw [J]; exact F⟩
 exact ⟨p, by rw [getElem?_set_ne e]; exact q, z, A, B, C⟩
theorem RI.turn {y out : Yard} {n : Nat} (hy : YardIs y) (h : RI y out n) {k i : Nat} (hk : k < y.runs.length) : RI y (mR out k i) (n + 1) := by
 obtain ⟨s, a, b, _⟩ := h.run k _ (getElem?_eq_getElem hk)
 unfold mR
 rw [a]
 simp only
 cases ht : s.tasks[i]? with
 | none => exact h.mono aE
 | some t =>
  simp only
  split
  ·next c => exact h.change hy a ht c b
  exact h.mono aE
theorem RI.inner {y out : Yard} {n : Nat} (hy : YardIs y) (h : RI y out n) {k : Nat} (hk : k < y.runs.length) : ∀ i, RI y (eZ out k i) (n + i)
 | 0 => h
 | i + 1 => (RI.inner hy h hk i).turn hy hk
theorem RI.outer {y : Yard} (hy : YardIs y) : ∀ k, k ≤ y.runs.length → RI y (dR y k) (12 * k)
 | 0, _ => RI.start hy
 | k + 1, hk => by
  have ih := RI.outer hy k aE
  have hr : y.runs[k]? = some y.runs[k] := getElem?_eq_getElem aE
  have hs := (hy.run k _ hr).1.small
  have := ih.inner hy (k := k) aE (tQ y k)
  rw [tP hr] at this
  show RI y (eZ (dR y k) k (tQ y k)) _
  rw [tP hr]
  exact this.mono aE
theorem RI.at {y : Yard} (hy : YardIs y) {k i : Nat} (hk : k < y.runs.length) : RI y (eZ (dR y k) k i) (12 * k + i) := (RI.outer hy k aE).inner hy hk i
theorem RI.ix {y out : Yard} {n : Nat} (hy : YardIs y) (h : RI y out n) {k : Nat} {r : Run} (hr : y.runs[k]? = some r) : eQ out r.id = some k := by
 rw [← (hy.run k r hr).2]
 unfold eQ
 rw [h.runs]
 congr 1
 exact zC h.runs (fun j a b ha hb => by
  obtain ⟨s, t, _, c, _⟩ := h.run j b hb
  rw [ha] at t
  have := Option.some.inj t
  subst this
  rw [c])
def gC (y : Yard) (id task try_ : Int) : Bool :=
 match eQ y id with
 | none => false
 | some k => match y.runs[k]? with
  | none => false
  | some r => inB task 0 ((r.tasks.length : Int) - 1) && (match r.tasks[task.toNat]? with | some t => decide (t.state = 3) && decide (t.try_ = try_) | none => false)
theorem RI.holds {y out : Yard} {n : Nat} (hy : YardIs y) (h : RI y out n) {k i : Nat} {r : Run} {t : Task} (hr : y.runs[k]? = some r) (ht : r.tasks[i]? = some t) :
  ∃ r2 t2, out.runs[k]? = some r2 ∧ RunIs r2 ∧ r2.tasks[i]? = some t2 ∧ gC out r.id (i : Int) t.try_ = decide (t2.state = 3) := by
 obtain ⟨r2, s, a, b, c, d⟩ := h.run k r hr
 obtain ⟨t2, e, g⟩ := d i t ht
 refine ⟨r2, t2, s, a, e, ?_⟩
 have hl := (gsi_.1 ht).1
 unfold gC
 rw [h.ix hy hr]
 simp only [s, Int.toNat_natCast, e, g, decide_true, Bool.and_true]
 have : inB (i : Int) 0 ((r2.tasks.length : Int) - 1) = true := inB_iff'.2 aE
 rw [this]; rfl
theorem vF {out : Yard} {k i : Nat} {r : Run} {t : Task} (hr : out.runs[k]? = some r) (ht : r.tasks[i]? = some t) (h3 : t.state = 3) : mR out k i = cZ out k r (cS r i) := by unfold mR; rw [hr]; simp only [ht, h3, if_true]
theorem vG {out : Yard} {k i : Nat} {r : Run} {t : Task} (hr : out.runs[k]? = some r) (ht : r.tasks[i]? = some t) (h3 : ¬ t.state = 3) : mR out k i = out := by unfold mR; rw [hr]; simp only [ht, h3, if_false]
def gT (ts : List Task) (k : Nat) : List Task := ts.mapIdx (fun j t => if j < k then gK t else t)
theorem leaveSTo_zero (ts : List Task) : gT ts 0 = ts := by
 apply ext_getElem?; intro i
 simp [gT, getElem?_mapIdx]
theorem leaveSTo_len (ts : List Task) (k : Nat) : (gT ts k).length = ts.length := by simp [gT]
theorem lB {ts : List Task} {k : Nat} {t : Task} (h : ts[k]? = some t) : (gT ts k)[k]? = some t := by simp [gT, getElem?_mapIdx, h]
theorem oA {ts : List Task} {k : Nat} {t y : Task} (h : ts[k]? = some t) (hy : gK t = y) : (gT ts k).set k y = gT ts (k + 1) := by
 apply ext_getElem?; intro i
 obtain ⟨hl, rfl⟩ := gsi_.1 h
 simp only [gT, getElem?_set, getElem?_mapIdx, length_mapIdx]
 by_cases e : k = i
 ·subst e; simp [hl, hy]
 rw [if_neg e]
 cases hi : ts[i]? with
 | none => rfl
 | some u =>
  have : (i < k) ↔ (i < k + 1) := by omega
  simp [this]
theorem leaveSTo_all (ts : List Task) : gT ts ts.length = fP ts := by
 apply ext_getElem?; intro i
 simp only [gT, fP, getElem?_mapIdx, getElem?_map]
 cases hi : ts[i]? with
 | none => rfl
 | some u => have := (gsi_.1 hi).1; simp [this]
theorem leaveS1_t {t : Task} (h : ¬ t.state = 4) (h2 : ¬ t.state = 5) : gK t = kD t := by unfold gK; rw [if_neg (by simp [h, h2])]
theorem leaveS1_4 {t : Task} (h : t.state = 4) : gK t = t := by unfold gK; rw [if_pos (.inl h)]
theorem leaveS1_5 {t : Task} (h : t.state = 5) : gK t = t := by unfold gK; rw [if_pos (.inr h)]
noncomputable def mF (r : Run) (task : Int) : Bool := gI r && (inB task 0 ((r.tasks.length : Int) - 1) && (match r.tasks[task.toNat]? with | some t => decide (t.state = 3) | none => false))
theorem aE8 {r : Run} {task : Int} (h : mF r task = true) : RunIs r ∧ ∃ t, 0 ≤ task ∧ r.tasks[task.toNat]? = some t ∧ t.state = 3 := by
 unfold mF at h
 simp only [Bool.and_eq_true] at h
 obtain ⟨s, a, b⟩ := h
 refine ⟨runIs.1 s, ?_⟩
 cases hq : r.tasks[task.toNat]? with
 | none => rw [hq] at b; cases b
 | some t => rw [hq] at b; exact ⟨t, (inB_iff'.1 a).1, rfl, by simpa using b⟩
noncomputable def dY (r : Run) (task : Int) : Run := if mF r task then xR r task.toNat else r

theorem aP8 {w W0 : World} {rs : List Res} {cs : List Value} {r : Run} {fp : List Nat} (hst : St w W0 (Res.own (.agg cs.toArray) r fp :: rs)) (st_ : Int) (hs64 : I64 st_) (hw : r.tasks.length ≤ 1048576) :
  Calls prog 170 #[.agg cs.toArray, I st_] W0 fun e w' => ∃ (cs' : List Value) (fp' : List Nat), e = .returned (.agg cs'.toArray) ∧ St w w' (Res.own (.agg cs'.toArray) (⟨r.id, r.plan, st_, fP r.tasks⟩ : Run) fp' :: rs) := by
 refine bY func170 rfl ntmps170 aZ (wp_seq (aA (sg (aI (cs := cs) rfl hst ?_)))); intro s a b c
 refine sg (aQ fN c ?_); intro d g j n
 refine aB (wp_seq (wp_seq (aA (sg (aG (aB (wp_block ?_)))))))
 have p := iZ n.f2
 obtain ⟨q, z, A, B, C, D, E⟩ := p
 subst C
 refine bF (fun (m : Nat) (f : Nat → Value) (W : World) => ∃ (k : Nat) (a : List Nat), k ≤ r.tasks.length ∧ m = r.tasks.length - k ∧ Ag [(1, I st_), (2, pt_ s), (4, pt_ d), (5, I (k : Int))] f ∧ St w W (Res.own (α := List Edge) q r.plan.edges A :: Res.own (α := List Task) z (gT r.tasks k) a :: Res.bx d [I 0, I 0, I 0, I 0, I 0, .slice none 0 0, I 0, .slice none 0 0] 123 :: Res.bx s [I r.id, I r.plan.prio, I r.plan.most, I r.plan.wait, I r.plan.tasks, q, I r.state, z] 123 :: rs)) (r.tasks.length - 0) ?_ ?_
 ·exact ⟨0, B, Nat.zero_le _, rfl, (Ag.nil.put.put.put.put.put.to aD), (by rw [leaveSTo_zero]; exact E)⟩
 intro b c d g
 obtain ⟨k, a, j, rfl, s, F⟩ := g
 have hll := leaveSTo_len r.tasks k
 refine wp_seq (wp_seq (aA (rn F 5 s [] [(11, .bool (decide ((k : Int) < ((gT r.tasks k).length : Int))))] [qb 3 rfl 7, ql (aM (F.get 1 rfl)), .o] aD fun n G => (aB (aP (G.at 11) (fun b => ?_) (fun b => ?_))))))
 ·refine wp_skip (wp_seq (wp_block (wp_seq (aA (rn F 3 G [] [(15, z), (16, I (k : Int))] [qb 3 rfl 7] aD fun s H => ?_)))))
  have p := dW (xs := r.tasks) (i := k) aE
  obtain ⟨t, ht⟩ := p
  have a : k < (gT r.tasks k).length := (gsi_.1 (lB ht)).1
  have p := eB (aM (F.get 1 rfl)) (i := k) (lB ht)
  obtain ⟨b, c, d, g, j, s, n, A⟩ := p
  refine sg (aT gH (H.at 15) j (H.at 16) rfl (sg (cY iI rfl rfl s (Below.refl _ _) (Shape.len n) (sg (aQ iD F ?_))))); intro a B C D
  refine sgn (aJ (cs := d) iI n rfl rfl D rfl ?_); intro b J
  refine aB (wp_seq (wp_seq (aA ?_)))
  have K := n
  obtain ⟨L, rfl, s⟩ := K
  have L : _ = [I t.state, I t.need, I t.try_, I t.until_] := L
  subst L
  rcases Decidable.em (t.state = 4) with M | M
  ·have N := gM M
   refine rn J 8 H.put.put.put [] [(26, .bool false)] [qb 0 rfl 0, qk N] aD fun a b => (aB (kI (b.at 26) rfl (wp_skip (aA (rn J 4 b [] [(30, z), (31, I (k : Int)), (32, .agg #[I t.state, I t.need, I t.try_, I t.until_])] [qb 4 rfl 7, qb 0 rfl 0] aD fun s O => ?_)))))
   have p := St.lendx (α := Task) aZ J.f2 (x := t) (lB ht)
   obtain ⟨a, c, d, g, post47, j, n, P, b, R⟩ := p
   obtain ⟨S, A, B⟩ := b; have S : _ = [I t.state, I t.need, I t.try_, I t.until_] := S; subst S
   refine sg (aT gH (O.at 30) P (O.at 31) rfl (sgn (gE (i := 0) (cs := [I t.state, I t.need, I t.try_, I t.until_]) aD rfl (O.at 32) (aC rfl (aC rfl (aC rfl (aC rfl bE)))) R.d1 rfl bH rfl ?_))); intro s a
   refine aB (aA (rn a 3 O.put [5] [(5, I ((k : Int) + 1))] [qad (k : Int) 1] aD fun b c => (aB ?_)))
   have d := a.cs0 (cs := [I t.state, I t.need, I t.try_, I t.until_]) (x := (⟨t.state, t.need, t.try_, t.until_⟩ : Task)) ⟨rfl, rfl, fF⟩
   have p := St.give (α := Task) d.f2.f1.f2
   obtain ⟨s, g⟩ := p
   exact ⟨_, r.tasks.length - (k + 1), aE, rfl, k + 1, s, aE, rfl, (c.to aD), (by rw [← oA ht (leaveS1_4 M)]; exact g.f4.f4.f2.f4.d4)⟩
  have N := gL M
  refine rn J 8 H.put.put.put [] [(26, .bool (!decide (t.state = 5)))] [qb 0 rfl 0, qk N, qb 0 rfl 0, .o] aD fun a T => (aB (cQ (T.at 26) (fun U => ?_) (fun U => ?_)))
  ·refine wp_seq (aA (sg (aN jE (T.at 6) (sgn (aO (v := I 6) aD rfl rfl rfl rfl J bH rfl ?_))))); intro s a
   refine aB (aA (sg (aN zL (T.at 6) (sgn (aO (v := I 0) aD rfl rfl rfl rfl a bH rfl ?_))))); intro b c
   refine aB (aA (rn c 4 T.put.put [] [(30, z), (31, I (k : Int)), (32, .agg #[I 6, I t.need, I t.try_, I 0])] [qb 4 rfl 7, qb 0 rfl 0] aD fun s X => ?_))
   have p := St.lendx (α := Task) aZ c.f2 (x := t) (lB ht)
   obtain ⟨a, d, b, g, post84, j, n, Y, A, Z⟩ := p
   obtain ⟨a0, B, C⟩ := A; have a0 : _ = [I t.state, I t.need, I t.try_, I t.until_] := a0; subst a0
   refine sg (aT gH (X.at 30) Y (X.at 31) rfl (sgn (gE (i := 0) (cs := [I 6, I t.need, I t.try_, I 0]) aD rfl (X.at 32) (aC rfl (aC rfl (aC rfl (aC rfl bE)))) Z.d1 rfl bH rfl ?_))); intro s a
   refine aB (aA (rn a 3 X.put [5] [(5, I ((k : Int) + 1))] [qad (k : Int) 1] aD fun b c => (aB ?_)))
   have d := a.cs0 (cs := [I 6, I t.need, I t.try_, I 0]) (x := (⟨6, t.need, t.try_, 0⟩ : Task)) ⟨rfl, rfl, fF⟩
   have p := St.give (α := Task) d.f2.f1.f2
   obtain ⟨s, g⟩ := p
   exact ⟨_, r.tasks.length - (k + 1), aE, rfl, k + 1, s, aE, rfl, (c.to aD), (by rw [← oA ht (leaveS1_t M U)]; exact g.f4.f4.f2.f4.d4)⟩
  refine wp_skip (aA (rn J 4 T [] [(30, z), (31, I (k : Int)), (32, .agg #[I t.state, I t.need, I t.try_, I t.until_])] [qb 4 rfl 7, qb 0 rfl 0] aD fun a b0 => ?_))
  have p := St.lendx (α := Task) aZ J.f2 (x := t) (lB ht)
  obtain ⟨s, b, c, d, post111, g, j, c0, n, e0⟩ := p
  obtain ⟨f0, A, B⟩ := n; have f0 : _ = [I t.state, I t.need, I t.try_, I t.until_] := f0; subst f0
  refine sg (aT gH (b0.at 30) c0 (b0.at 31) rfl (sgn (gE (i := 0) (cs := [I t.state, I t.need, I t.try_, I t.until_]) aD rfl (b0.at 32) (aC rfl (aC rfl (aC rfl (aC rfl bE)))) e0.d1 rfl bH rfl ?_))); intro s a
  refine aB (aA (rn a 3 b0.put [5] [(5, I ((k : Int) + 1))] [qad (k : Int) 1] aD fun b c => (aB ?_)))
  have d := a.cs0 (cs := [I t.state, I t.need, I t.try_, I t.until_]) (x := (⟨t.state, t.need, t.try_, t.until_⟩ : Task)) ⟨rfl, rfl, fF⟩
  have p := St.give (α := Task) d.f2.f1.f2
  obtain ⟨s, g⟩ := p
  exact ⟨_, r.tasks.length - (k + 1), aE, rfl, k + 1, s, aE, rfl, (c.to aD), (by rw [← oA ht (leaveS1_5 U)]; exact g.f4.f4.f2.f4.d4)⟩
 refine wp_exit (wp_seq (aA (sg (aH (G.at 1) (sg (aN aG8 (G.at 2) (sgn (aO (v := I st_) aD rfl rfl rfl rfl F.f3 bH rfl ?_)))))))); intro s a
 refine aB (wp_seq (aA (sg (aS (cs := [I r.id, I r.plan.prio, I r.plan.most, I r.plan.wait, I r.plan.tasks, q, I st_, z]) bP rfl (G.at 2) (a.get 0 rfl) rfl rfl (sgn (aK aD (G.at 4) rfl (aC rfl (aC rfl (aC rfl (aC rfl (aC rfl (aC (Sl.one (aM (a.f3.get 2 rfl))) (aC rfl (aC (Sl.one (aM (a.f3.get 3 rfl))) bE)))))))) a.f3 bH rfl ?_)))))); intro s b
 refine aB (wr (eT bP rfl results170 (G.at 4) (b.get 0 rfl) rfl ?_))
 have hke : k = r.tasks.length := by omega
 rw [hke, leaveSTo_all] at b
 have c := b.f3
 have d := eP (x := (⟨r.id, r.plan, st_, fP r.tasks⟩ : Run)) c.f3 (show Run.ok _ from by simp only [Run.ok, Plan.ok, I64] at *; omega)
 try dsimp only at d
 have s := d.d1
 exact ⟨_, _, rfl, s.d1⟩
theorem RunsS {r : Run} (hc : Shape.C w cs r fp) (task : Int) (hw : r.wt ≤ 1048576) :
  Calls prog 169 #[.agg cs.toArray, I task] w (rB_ (mF r task) w) := by
 have hrw : r.tasks.length ≤ r.wt := by unfold Run.wt; omega
 refine bY func169 rfl ntmps169 aZ (wp_seq (aA (sg (aI (cs := cs) rfl (St.start w) ?_)))); intro t a c d
 refine sg (aG (aB (wp_seq (aA ?_))))
 rcases bd (gI r) with g | g
 ·refine rc d 20 Ag.nil.put.put.put.put [4] [(4, .bool false)] [qw 0 rfl (Shape.len hc), qcb func89 rfl g (fun W s b => rS W (aR hc s.below))] aD fun f10 t a c j => (aB (wr (bA results169 (a.at 4) ?_)))
  exact ⟨(fB (by unfold mF; rw [g]; rfl)), c.bare⟩
 have n := hc
 obtain ⟨p, q, z, A, rfl, B, D, E, rfl⟩ := n
 rcases bd (inB task 0 ((r.tasks.length : Int) - 1)) with F | F
 ·have t := cU F
  refine rc d 20 Ag.nil.put.put.put.put [4] [(4, .bool false)] [qb 0 rfl 0, qcb func89 rfl g (fun W s b => rS W (aR hc s.below)), qb 0 rfl 7, ql E, qsb (r.tasks.length : Int) 1, qcb func43 rfl F (fun W s b => cR W task 0 ((r.tasks.length : Int) - 1))] aD fun a c j n p => (aB (wr (bA results169 (j.at 4) ?_)))
  exact ⟨(fB (by unfold mF; rw [g, F]; rfl)), n.bare⟩
 have t := inB_iff'.1 F
 have G : (task).toNat < r.tasks.length := aE
 have q := idx E (i := (task).toNat) G
 obtain ⟨z, A, B, a, H, J, c, p⟩ := q
 have K := c
 obtain ⟨L, rfl, j⟩ := K
 have L : _ = [I (r.tasks[(task).toNat]'G).state, I (r.tasks[(task).toNat]'G).need, I (r.tasks[(task).toNat]'G).try_, I (r.tasks[(task).toNat]'G).until_] := L
 subst L
 refine rc d 20 Ag.nil.put.put.put.put [4] [(4, .bool (decide ((r.tasks[(task).toNat]'G).state = 3)))] [qb 0 rfl 0, qcb func89 rfl g (fun W s b => rS W (aR hc s.below)), qb 0 rfl 7, ql E, qsb (r.tasks.length : Int) 1, qcb func43 rfl F (fun W s b => cR W task 0 ((r.tasks.length : Int) - 1)), qb 0 rfl 7, qxe H (e := task) aE, qr J 0, .o] aD fun t a c d j => (aB ?_)
 rcases nem ((r.tasks[(task).toNat]'G).state = 3) with n | n
 ·have p := decide_eq_false n
  refine wr (bA results169 ((c.at 4).trans (congrArg Value.bool p)) ?_)
  have hB_ := F
  have htl : task.toNat < r.tasks.length := by have := inB_iff'.1 hB_; omega
  exact ⟨(fB (by unfold mF; rw [g, hB_]; simp only [getElem?_eq_getElem htl, p, Bool.true_and])), d.bare⟩
 have p := decide_eq_true n
 refine wr (bA results169 ((c.at 4).trans (congrArg Value.bool p)) ?_)
 have hB_ := F
 have htl : task.toNat < r.tasks.length := by have := inB_iff'.1 hB_; omega
 exact ⟨(fB (by unfold mF; rw [g, hB_]; simp only [getElem?_eq_getElem htl, p, Bool.true_and])), d.bare⟩
theorem uL {r : Run} (hc : Shape.C w cs r fp) (task : Int) (hw : r.wt ≤ 1048576) :
  Calls prog 105 #[.agg cs.toArray, I task] w (rO_ (dY r task) w) := by
 have hrw : r.tasks.length ≤ r.wt := by unfold Run.wt; omega
 refine bY func105 rfl ntmps105 aZ (wp_seq (aA (sg (aI (cs := cs) rfl (St.start w) ?_)))); intro a c d g
 refine sg (aQ fN g ?_); intro j n p q
 refine aB (wp_seq (aA (sg (aV bP rfl rfl (q.get 1 rfl) (Shape.len hc) (sg (bC func136 rfl rfl ((pW n (aR hc q.below) aE).mono ?_))))))); rintro _ a ⟨c, d, rfl, z⟩; refine ⟨_, rfl, ?_⟩
 have g := St.call q z
 refine sg (aQ fN g ?_); intro A p B D
 refine sgn (aJ (cs := c) bP (bB (D.get 1 rfl) rfl) rfl rfl D rfl ?_); intro a n
 refine aB (wp_seq (wp_seq (aA (rc n 4 Ag.nil.put.put.put.put.put.put.put [] [(11, .bool (!(mF r task)))] [qw 3 rfl (Shape.len hc), qc func169 rfl (fun W s b => RunsS W (aR hc s.below) task aE), .o] aD fun d g E p q => (aB (bZ (E.at 11) (fun F => ?_) (fun F => ?_)))))))
 ·refine wp_seq (aA (sg (aV bP rfl (E.at 5) (p.get 0 rfl) (Shape.len (bB (p.get 1 rfl) rfl)) (sgn (aJ (cs := c) bP (bB (p.f2.get 2 rfl) rfl) (E.at 4) rfl p.f2 rfl ?_))))); intro a d
  refine aB (wr (eT bP rfl results105 (E.at 4) (d.get 0 rfl) (Shape.len (bB (d.get 2 rfl) rfl)) ?_))
  have hfe : dY r task = r := by unfold dY; rw [(aY F)]; rfl
  rw [hfe]
  exact ⟨_, _, rfl, d.f2.d1.d1.d1.only 0 rfl⟩
 refine wp_skip (wp_seq (aA ?_))
 have G := iZ p.f1
 obtain ⟨H, J, a, c, K, g, L⟩ := G
 subst K
 refine rn L 3 E [] [(14, J), (15, I task)] [qb 2 rfl 7] aD fun n M => ?_
 have G := aE8 (aX F)
 obtain ⟨hRI, t, d, ht, q⟩ := G
 have hil := (gsi_.1 ht).1
 have G := St.lendx (α := Task) aZ L.f1 (x := t) ht
 obtain ⟨N, a, O, c, post49, g, p, P, z, R⟩ := G
 obtain ⟨S, n, B⟩ := z; have S : _ = [I t.state, I t.need, I t.try_, I t.until_] := S; subst S
 refine sg (aT gH (M.at 14) P (M.at 15) aE (sg (aN zL rfl (sgn (bS (i := 3) (v := I 0) aD rfl rfl rfl rfl R.d1 rfl bH rfl ?_))))); intro a c
 refine aB (wp_seq (aA (rn c 5 M.put.put [] [(22, .pointer (some ⟨N, O.length, none⟩))] [qb 3 rfl 7, qxe P (e := task) aE] aD fun d T => (sgn (bS (i := 0) (v := I 2) aD (T.at 22) rfl rfl rfl c rfl bH rfl ?_))))); intro a U
 refine aB (wp_seq (wp_seq ?_))
 have X := hc
 obtain ⟨g, n, p, q, rfl, d, z, B, rfl⟩ := X
 refine rd U T [] [(32, .bool (decide (t.try_ < r.plan.most)))] [qb 3 rfl 7, qxe P (e := task) aE, qp 0 rfl 2, qb 5 rfl 2, .o] aD aD fun a c D E K => (aP (D.at 32) (fun L => ?_) (fun L => ?_))
 ·refine wp_seq (aA ?_)
  have d := E.cs0 (cs := [I 2, I t.need, I t.try_, I 0]) (x := (⟨2, t.need, t.try_, 0⟩ : Task)) ⟨rfl, rfl, fF⟩
  have G := St.give (α := Task) d.f2.f1.f2
  obtain ⟨a, c⟩ := G
  refine sg (aS (cs := [I r.id, I r.plan.prio, I r.plan.most, I r.plan.wait, I r.plan.tasks, H, I r.state, J]) bP rfl (D.at 5) (c.get 2 rfl) rfl rfl (sgn (aK aD (D.at 4) rfl (aC rfl (aC rfl (aC rfl (aC rfl (aC rfl (aC (Sl.one (aM (c.f3.get 2 rfl))) (aC rfl (aC (Sl.one (aM (c.f3.get 1 rfl))) bE)))))))) c.f3 bH rfl ?_))); intro a d
  refine aB (wr (eT bP rfl results105 (D.at 4) (d.get 0 rfl) rfl ?_))
  have hfe : dY r task = (⟨r.id, r.plan, r.state, r.tasks.set task.toNat ⟨2, t.need, t.try_, 0⟩⟩ : Run) := by unfold dY xR; rw [(aX F), if_pos rfl, ht]; simp only; rw [if_pos L]
  have a := eP (x := (⟨r.id, r.plan, r.state, r.tasks.set task.toNat ⟨2, t.need, t.try_, 0⟩⟩ : Run)) d.f1.f2 (show Run.ok _ from by simp only [Run.ok, Plan.ok, I64] at *; omega)
  try dsimp only at a
  have c := a.d1
  rw [hfe]
  exact ⟨_, _, rfl, c.d1.d1.only 0 rfl⟩
 refine wp_skip (wp_seq (aA (lw D [(1, I task), (4, pt_ j), (5, pt_ A)] aD fun d => (rn E 5 d [] [(38, .pointer (some ⟨N, O.length, none⟩))] [qb 3 rfl 7, qxe P (e := task) aE] aD fun a g => (sgn (bS (i := 0) (v := I 5) aD (g.at 38) rfl rfl rfl E rfl bH rfl ?_)))))); intro c j
 refine aB (wp_seq (aA ?_))
 have d := j.cs0 (cs := [I 5, I t.need, I t.try_, I 0]) (x := (⟨5, t.need, t.try_, 0⟩ : Task)) ⟨rfl, rfl, fF⟩
 have G := St.give (α := Task) d.f2.f1.f2
 obtain ⟨a, n⟩ := G
 refine sg (aS (cs := [I r.id, I r.plan.prio, I r.plan.most, I r.plan.wait, I r.plan.tasks, H, I r.state, J]) bP rfl (g.at 5) (n.get 2 rfl) rfl rfl ?_)
 have c := eP (x := (⟨r.id, ⟨r.plan.prio, r.plan.most, r.plan.wait, r.plan.tasks, r.plan.edges⟩, r.state, (r.tasks).set (task).toNat (⟨5, t.need, t.try_, 0⟩ : Task)⟩ : Run)) n.f1 (by simp only [Run.ok, Plan.ok, I64] at *; omega)
 try dsimp only at c
 refine sg (bN func170 rfl rfl rfl ((aP8 c 3 (by simp only [I64]; omega) (by simp only [length_set]; omega)).mono ?_)); rintro _ a ⟨d, j, rfl, p⟩; refine ⟨_, rfl, ?_⟩
 refine sgn (aJ (cs := d) bP (bB (p.f2.get 1 rfl) rfl) (g.at 4) rfl p.f2 rfl ?_); intro n q
 refine aB (wr (eT bP rfl results105 (g.at 4) (q.get 0 rfl) (Shape.len (bB (q.get 1 rfl) rfl)) ?_))
 have hfe : dY r task = (⟨r.id, r.plan, 3, fP (r.tasks.set task.toNat ⟨5, t.need, t.try_, 0⟩)⟩ : Run) := by unfold dY xR; rw [(aX F), if_pos rfl, ht]; simp only; rw [if_neg L]
 rw [hfe]
 exact ⟨_, _, rfl, q.f1.d1.d1.d1.only 0 rfl⟩

def cE (r r' : Run) (k : Nat) : List Int := (iG r'.tasks 2 k).filter (fun t => !decide (t ∈ bI r.tasks 2))
theorem freshTo_zero (r r' : Run) : cE r r' 0 = [] := rfl
theorem freshTo_len (r r' : Run) (k : Nat) : (cE r r' k).length ≤ k := Nat.le_trans (length_filter_le _ _) (iV _ _ _)
theorem tin_mem {ts : List Task} {s : Int} {k : Nat} : (k : Int) ∈ bI ts s ↔ ∃ h : k < ts.length, ts[k].state = s := by
 unfold bI iG
 rw [mem_filterMap]
 constructor
 ·rintro ⟨a, ha, h⟩
  rw [mem_range] at ha
  split at h
  ·next e =>
   simp only [Option.some.injEq] at h
   have : a = k := by omega
   subst this
   rw [getElem?_eq_getElem ha] at e
   exact ⟨ha, by simpa using e⟩
  cases h
 rintro ⟨h, e⟩
 exact ⟨k, by simpa using h, by rw [if_pos (by rw [getElem?_eq_getElem h]; simpa using e)]⟩
theorem xM {r r' : Run} {k : Nat} (h : k < r'.tasks.length) (hs : ¬ r'.tasks[k].state = 2) : cE r r' (k + 1) = cE r r' k := by unfold cE; rw [tO h hs]
theorem freshTo_f2 {r r' : Run} {k : Nat} (h : k < r'.tasks.length) (h2 : k < r.tasks.length) (hs : r.tasks[k].state = 2) : cE r r' (k + 1) = cE r r' k := by
 by_cases hq : r'.tasks[k].state = 2
 ·unfold cE
  rw [pZ h hq, filter_append]
  have : (k : Int) ∈ bI r.tasks 2 := tin_mem.2 ⟨h2, hs⟩
  simp [this]
 exact xM h hq
theorem zI {r r' : Run} {k : Nat} (h : k < r'.tasks.length) (hs : r'.tasks[k].state = 2) (hn : r.tasks.length ≤ k ∨ ∃ h2 : k < r.tasks.length, ¬ r.tasks[k].state = 2) : cE r r' (k + 1) = cE r r' k ++ [(k : Int)] := by
 unfold cE
 rw [pZ h hs, filter_append]
 have : ¬ (k : Int) ∈ bI r.tasks 2 := fun hm => by
  obtain ⟨h2, e⟩ := tin_mem.1 hm
  rcases hn with hn | ⟨_, hn⟩
  ·omega
  exact hn e
 simp [this]
theorem aD5 {w W0 : World} {rs : List Res} {cs : List Value} {r : Run} (h0 : St w W0 rs) (h : ∀ W', St w W' rs → ∃ f, Shape.C W' cs r f) : ∃ v1 v2, cs = [I r.id, I r.plan.prio, I r.plan.most, I r.plan.wait, I r.plan.tasks, v1, I r.state, v2] ∧ r.ok ∧ (∀ W', St w W' rs → ∃ f, Sl W' v1 r.plan.edges f) ∧ (∀ W', St w W' rs → ∃ f, Sl W' v2 r.tasks f) := by
 obtain ⟨f, hc⟩ := h W0 h0
 obtain ⟨v1, v2, f1, f2, rfl, hok, s, t, _⟩ := hc
 refine ⟨v1, v2, rfl, hok, fun W' st => ?_, fun W' st => ?_⟩
 ·obtain ⟨f, hc⟩ := h W' st
  obtain ⟨a, b, c, d, e, _, g, j, _⟩ := hc
  have n : v1 = a := by have := congrArg (fun l => l.getD 5 undef) e; exact this
  rw [n]; exact ⟨_, g⟩
 obtain ⟨f, hc⟩ := h W' st
 obtain ⟨a, b, c, d, e, _, g, j, _⟩ := hc
 have n : v2 = b := by have := congrArg (fun l => l.getD 7 undef) e; exact this
 rw [n]; exact ⟨_, j⟩

theorem LayS {w W0 : World} {rs : List Res} {now seq : Int} {vs vr : Value} {xss : List (List Entry)} {fp : List Nat} {csw csr : List Value} {was r : Run} (hst : St w W0 (Res.own vs xss fp :: rs)) (hvr : vr.oneCell' = true) (hwas : ∀ W', St w W' rs → ∃ f, Shape.C W' csw was f) (hr : ∀ W', St w W' rs → ∃ f, Shape.C W' csr r f) (hss : 4 ≤ xss.length) (hrl : r.tasks.length ≤ 1000) (hln : (xss.getD (bL r.id).toNat []).length ≤ 1000000) (hsq : 0 ≤ seq ∧ seq ≤ 4000000000) :
  Calls prog 168 #[.agg #[I now, I seq, vs, vr], .agg csw.toArray, .agg csr.toArray] W0 fun e w' => ∃ (fp' : List Nat), e = .returned (.agg #[I now, I (seq + ((kF was r).length : Int)), vs, vr]) ∧ St w w' (Res.own vs (dV (bL r.id).toNat r.plan.prio r.id (kF was r) xss seq) fp' :: rs) := by
 have hsr := iA r.id
 have t := aD5 (St.dropn 1 hst) hwas
 obtain ⟨a, c, rfl, hwok, d, g⟩ := t
 have t := aD5 (St.dropn 1 hst) hr
 obtain ⟨j, n, rfl, hrok, p, q⟩ := t
 have hwl := (yP g (St.dropn 1 hst)).len_le
 refine iS func168 rfl ntmps168 aZ (wp_seq (aA (sg (aI (cs := [I now, I seq, vs, vr]) rfl hst ?_)))); intro z d A B
 refine sg (aI (cs := [I was.id, I was.plan.prio, I was.plan.most, I was.plan.wait, I was.plan.tasks, a, I was.state, c]) rfl B ?_); intro D p E F
 refine sg (aI (cs := [I r.id, I r.plan.prio, I r.plan.most, I r.plan.wait, I r.plan.tasks, j, I r.state, n]) rfl F ?_); intro G d A H
 refine sg (aQ cI H ?_); intro J B K L
 refine aB (wp_seq (aA (rc L 4 Ag.nil.put.put.put.put.put.put.put [] [(7, I (bL r.id))] [qb 1 rfl 0, qc func219 rfl (fun W s b => ShelfOfS W r.id)] aD fun p E F d A => (aB (wp_seq (wp_seq (aA (sg (aG (aB (wp_block (bF (fun (m : Nat) (f : Nat → Value) (W : World) => ∃ (k : Nat) (M : List Nat), k ≤ r.tasks.length ∧ m = r.tasks.length - k ∧ Ag [(3, pt_ z), (4, pt_ D), (5, pt_ G), (6, pt_ J), (7, I (bL r.id)), (8, I (k : Int))] f ∧ St w W (Res.bx J [I 0, I 0, .slice none 0 0, .slice none 0 0] 34 :: Res.bx G [I r.id, I r.plan.prio, I r.plan.most, I r.plan.wait, I r.plan.tasks, j, I r.state, n] 123 :: Res.bx D [I was.id, I was.plan.prio, I was.plan.most, I was.plan.wait, I was.plan.tasks, a, I was.state, c] 123 :: Res.bx z [I now, I (seq + ((cE was r k).length : Int)), vs, vr] 34 :: Res.own (α := List (List Entry)) vs (dV (bL r.id).toNat r.plan.prio r.id (cE was r k) xss seq) M :: rs)) (r.tasks.length - 0) ?_ ?_))))))))))))
 ·exact ⟨0, fp, Nat.zero_le _, rfl, (F.put.to aD), (by simpa [freshTo_zero, dV] using d)⟩
 intro p A N B
 obtain ⟨k, M, E, rfl, H, O⟩ := B
 have hzl := kK (bL r.id).toNat r.plan.prio r.id (cE was r k) xss seq
 have hzg := kL (bL r.id).toNat r.plan.prio r.id (cE was r k) xss seq aE
 have hfk := freshTo_len was r k
 refine wp_seq (wp_seq (aA (rn O 5 H [] [(16, .bool (decide ((k : Int) < (r.tasks.length : Int))))] [qb 1 rfl 7, ql (yP q (St.dropn 5 O)), .o] aD fun d P => (aB (aP (P.at 16) (fun p => ?_) (fun p => ?_))))))
 ·refine wp_skip (wp_seq (wp_block (wp_seq (wp_seq (aA (sg (aN hH (P.at 5) ?_)))))))
  have hkr : k < r.tasks.length := by omega
  have R : k < r.tasks.length := aE
  have t := idx (yP q (St.dropn 5 O)) (i := k) R
  obtain ⟨d, A, B, E, S, T, p, F⟩ := t
  have U := p
  obtain ⟨X, rfl, H⟩ := U
  have X : _ = [I (r.tasks[k]'R).state, I (r.tasks[k]'R).need, I (r.tasks[k]'R).try_, I (r.tasks[k]'R).until_] := X
  subst X
  rcases Decidable.em ((r.tasks[k]'R).state = 2) with Y | Y
  ·have Z := gM Y
   rcases nem ((k : Int) < (was.tasks.length : Int)) with a0 | a0
   ·have b0 := decide_eq_false a0
    refine rn O 22 P.put [] [(41, .bool false)] [qb 1 rfl 7, qx S, qn T 0, qk Z, qb 2 rfl 7, ql (yP g (St.dropn 5 O)), qk b0] aD fun d c0 => (aB (kI (c0.at 41) rfl (wp_skip (wp_seq ?_))))
    have e0 : (bL r.id).toNat < (dV (bL r.id).toNat r.plan.prio r.id (cE was r k) xss seq).length := (gsi_.1 (getD_some (xss := dV (bL r.id).toNat r.plan.prio r.id (cE was r k) xss seq) (k := (bL r.id).toNat) aE)).1
    have t := eB (aM (O.get 4 rfl)) (i := (bL r.id).toNat) (getD_some (xss := dV (bL r.id).toNat r.plan.prio r.id (cE was r k) xss seq) (k := (bL r.id).toNat) aE)
    obtain ⟨f0, g0, d, p, h0, j0, q, A⟩ := t
    have k0 := q
    obtain ⟨B, rfl, E⟩ := k0
    refine cK 18 [(some 17, none, .of (ι := Value × List Nat) [59] (fun ⟨l0, d⟩ => [l0]) (fun ⟨l0, d⟩ => Res.own (α := List Entry) l0 (kN ((dV (bL r.id).toNat r.plan.prio r.id (cE was r k) xss seq).getD (bL r.id).toNat []) (⟨r.plan.prio, seq + ((cE was r k).length : Int), r.id, (k : Int)⟩ : Entry)) d))] [(true, .is (.pointer (some ⟨z, 0 + 2, none⟩))), (true, .is (vs)), (true, .is (I (bL r.id))), (true, .is (.pointer (some ⟨z, 0 + 2, none⟩))), (true, .is (vs)), (true, .is (I (bL r.id))), (true, .is (.pointer (some ⟨f0, g0, none⟩))), (true, .is (B)), (true, .is (.pointer (some ⟨G, 0 + 1, none⟩))), (true, .is (.pointer (some ⟨G, 0 + 1 + 0, none⟩))), (true, .is (I r.plan.prio)), (true, .is (.pointer (some ⟨z, 0 + 1, none⟩))), (true, .is (I (seq + ((cE was r k).length : Int)))), (true, .is (.pointer (some ⟨G, 0 + 0, none⟩))), (true, .is (I r.id)), (true, .is (I (k : Int))), (true, .is (.agg #[I r.plan.prio, I (seq + ((cE was r k).length : Int)), I r.id, I (k : Int)])), (false, .ex (fun (l0 : Value) => l0))] mix aD aD aD aD (rs0 := []) rfl O (Below.refl _ _) ⟨(fq_ eC (c0.at 3)), (fun f W hst hbl hd hf => aW eF rfl (hd 0 42 rfl rfl) (hst.get 3 rfl) (i := 2) rfl rfl brq), (mq_ (c0.at 7)), (fq_ eC (c0.at 3)), (fun f W hst hbl hd hf => aW eF rfl (hd 3 45 rfl rfl) (hst.get 3 rfl) (i := 2) rfl rfl brq), (mq_ (c0.at 7)), (fun f W hst hbl hd hf => aT eO (hd 4 46 rfl rfl) h0 (hd 5 47 rfl rfl) aE brq), (fun f W hst hbl hd hf => dP jD rfl (hd 6 48 rfl rfl) j0 hbl (i := 0) rfl rfl brq), (fq_ lD (c0.at 5)), (fun f W hst hbl hd hf => aN uF (hd 8 50 rfl rfl) brq), (fun f W hst hbl hd hf => aW dA rfl (hd 9 51 rfl rfl) (hst.get 1 rfl) (i := 1) rfl rfl brq), (fq_ uD (c0.at 3)), (fun f W hst hbl hd hf => aW dA rfl (hd 11 53 rfl rfl) (hst.get 3 rfl) (i := 1) rfl rfl brq), (fq_ pQ (c0.at 5)), (fun f W hst hbl hd hf => aW dA rfl (hd 13 55 rfl rfl) (hst.get 1 rfl) (i := 0) rfl rfl brq), (mq_ (c0.at 8)), (fun f W hst hbl hd hf => dD (vs := [(0, I r.plan.prio), (1, I (seq + ((cE was r k).length : Int))), (2, I r.id), (3, I (k : Int))]) (cs := [I r.plan.prio, I (seq + ((cE was r k).length : Int)), I r.id, I (k : Int)]) (bR (v := I r.plan.prio) (hd 10 52 rfl rfl) (bR (v := I (seq + ((cE was r k).length : Int))) (hd 12 54 rfl rfl) (bR (v := I r.id) (hd 14 56 rfl rfl) (bR (v := I (k : Int)) (hd 15 57 rfl rfl) dJ)))) aD brq), ?_, trivial⟩ ?_
    ·intro f W ru oth hu hst hbl hd hf
     have m0 : ru = [] := hu
     subst m0
     try simp only [cap_, cL] at hst
     refine (bN func187 rfl (hd 7 49 rfl rfl) (hd 16 58 rfl rfl) ((uM W (E.below hbl) (show Shape.C _ [I r.plan.prio, I (seq + ((cE was r k).length : Int)), I r.id, I (k : Int)] (⟨r.plan.prio, seq + ((cE was r k).length : Int), r.id, (k : Int)⟩ : Entry) [] from ⟨rfl, rfl, fF⟩) aE).mono ?_)); rintro _ p ⟨l0, d, rfl, q⟩; refine ⟨_, rfl, ?_⟩
     have A := St.call hst q
     exact ⟨⟨l0, rfl⟩, ⟨_, ⟨_, _, rfl, ⟨(l0, d), (ce rfl rfl), rfl⟩, rfl⟩, A⟩, (hbl.trans (Below.mono q.below hbl.size))⟩
    intro n0 B rs_ hAL_ E F o0 p0
    obtain ⟨_, _, rfl, ⟨⟨l0, d⟩, p, rfl⟩, m0⟩ := hAL_
    have m0 : _ = [] := m0
    subst m0
    have q0 : n0 59 = l0 := congrArg (fun l => l.getD 0 undef) p
    try simp only [cap_, cL] at E
    have q := E.f5
    have t := St.lendx (α := List Entry) aZ q (x := (dV (bL r.id).toNat r.plan.prio r.id (cE was r k) xss seq).getD (bL r.id).toNat []) (getD_some aE)
    obtain ⟨d, A, B, F, post64, p, H, s0, K, L⟩ := t
    have t := L.f1.uncs1
    obtain ⟨E, t0, v0⟩ := t; subst t0
    refine sg (aT eO (o0 1 43 aZ rfl) s0 (o0 2 44 aZ rfl) aE (sgn (bS (i := 0) (v := l0) (C' := [l0]) aD rfl q0 (Sl.cells (aM (v0.f1.get 3 rfl))) (Sl.one (aM (v0.f1.get 3 rfl))) v0.f1 rfl bH rfl ?_))); intro d p
    refine aB (aA (rn p 4 (Ag.cons (show n0 3 = pt_ z from ((p0 3 rfl).trans (c0.at 3))) (Ag.cons (show n0 4 = pt_ D from ((p0 4 rfl).trans (c0.at 4))) (Ag.cons (show n0 5 = pt_ G from ((p0 5 rfl).trans (c0.at 5))) (Ag.cons (show n0 6 = pt_ J from ((p0 6 rfl).trans (c0.at 6))) (Ag.cons (show n0 7 = I (bL r.id) from ((p0 7 rfl).trans (c0.at 7))) (Ag.cons (show n0 8 = I (k : Int) from ((p0 8 rfl).trans (c0.at 8))) Ag.nil)))))).put [] [(63, I ((seq + ((cE was r k).length : Int)) + 1)), (64, .pointer (some ⟨z, 1, none⟩))] [qb 7 rfl 1, qad (seq + ((cE was r k).length : Int)) 1] aD fun d q => (sgn (aO (v := I ((seq + ((cE was r k).length : Int)) + 1)) (C' := [I now, I ((seq + ((cE was r k).length : Int)) + 1), vs, vr]) aD (q.at 64) (q.at 63) rfl rfl p.f7 bH rfl ?_)))); intro A B
    refine aB (aA (rn B 3 q [8] [(8, I ((k : Int) + 1))] [qad (k : Int) 1] aD fun d E => (aB ?_)))
    have F := B.f4.cs1
    have t := St.give (α := List Entry) F.f4.f1.f3
    obtain ⟨H, K⟩ := t
    exact ⟨_, r.tasks.length - (k + 1), aE, rfl, k + 1, H, aE, rfl, (E.to aD), (by rw [zI aE Y (.inl aE), mV, length_append, length_singleton, show seq + (((cE was r k).length + 1 : Nat) : Int) = seq + ((cE was r k).length : Int) + 1 by omega]; exact K.f1.f5.f5.f5.d5)⟩
   have b0 := decide_eq_true a0
   have w0 : k < was.tasks.length := aE
   have t := idx (yP g (St.dropn 5 O)) (i := k) w0
   obtain ⟨d, p, q, A, x0, y0, B, E⟩ := t
   have z0 := B
   obtain ⟨A0, rfl, F⟩ := z0
   have A0 : _ = [I (was.tasks[k]'w0).state, I (was.tasks[k]'w0).need, I (was.tasks[k]'w0).try_, I (was.tasks[k]'w0).until_] := A0
   subst A0
   refine rn O 22 P.put [] [(41, .bool (decide ((was.tasks[k]'w0).state = 2)))] [qb 1 rfl 7, qx S, qn T 0, qk Z, qb 2 rfl 7, ql (yP g (St.dropn 5 O)), qk b0, qb 2 rfl 7, qx x0, qn y0 0, .o] aD fun d B0 => (aB (aP (B0.at 41) (fun C0 => ?_) (fun C0 => ?_)))
   ·refine wp_exit (aA (rn O 3 B0 [8] [(8, I ((k : Int) + 1))] [qad (k : Int) 1] aD fun p q => (aB ?_)))
    exact ⟨_, r.tasks.length - (k + 1), aE, rfl, k + 1, M, aE, rfl, (q.to aD), (by rw [freshTo_f2 aE aE C0]; exact O)⟩
   refine wp_skip (wp_seq ?_)
   have e0 : (bL r.id).toNat < (dV (bL r.id).toNat r.plan.prio r.id (cE was r k) xss seq).length := (gsi_.1 (getD_some (xss := dV (bL r.id).toNat r.plan.prio r.id (cE was r k) xss seq) (k := (bL r.id).toNat) aE)).1
   have t := eB (aM (O.get 4 rfl)) (i := (bL r.id).toNat) (getD_some (xss := dV (bL r.id).toNat r.plan.prio r.id (cE was r k) xss seq) (k := (bL r.id).toNat) aE)
   obtain ⟨D0, E0, d, g, F0, G0, p, q⟩ := t
   have H0 := p
   obtain ⟨A, rfl, B⟩ := H0
   refine cK 18 [(some 17, none, .of (ι := Value × List Nat) [59] (fun ⟨J0, a⟩ => [J0]) (fun ⟨J0, a⟩ => Res.own (α := List Entry) J0 (kN ((dV (bL r.id).toNat r.plan.prio r.id (cE was r k) xss seq).getD (bL r.id).toNat []) (⟨r.plan.prio, seq + ((cE was r k).length : Int), r.id, (k : Int)⟩ : Entry)) a))] [(true, .is (.pointer (some ⟨z, 0 + 2, none⟩))), (true, .is (vs)), (true, .is (I (bL r.id))), (true, .is (.pointer (some ⟨z, 0 + 2, none⟩))), (true, .is (vs)), (true, .is (I (bL r.id))), (true, .is (.pointer (some ⟨D0, E0, none⟩))), (true, .is (A)), (true, .is (.pointer (some ⟨G, 0 + 1, none⟩))), (true, .is (.pointer (some ⟨G, 0 + 1 + 0, none⟩))), (true, .is (I r.plan.prio)), (true, .is (.pointer (some ⟨z, 0 + 1, none⟩))), (true, .is (I (seq + ((cE was r k).length : Int)))), (true, .is (.pointer (some ⟨G, 0 + 0, none⟩))), (true, .is (I r.id)), (true, .is (I (k : Int))), (true, .is (.agg #[I r.plan.prio, I (seq + ((cE was r k).length : Int)), I r.id, I (k : Int)])), (false, .ex (fun (J0 : Value) => J0))] mix aD aD aD aD (rs0 := []) rfl O (Below.refl _ _) ⟨(fq_ eC (B0.at 3)), (fun f W hst hbl hd hf => aW eF rfl (hd 0 42 rfl rfl) (hst.get 3 rfl) (i := 2) rfl rfl brq), (mq_ (B0.at 7)), (fq_ eC (B0.at 3)), (fun f W hst hbl hd hf => aW eF rfl (hd 3 45 rfl rfl) (hst.get 3 rfl) (i := 2) rfl rfl brq), (mq_ (B0.at 7)), (fun f W hst hbl hd hf => aT eO (hd 4 46 rfl rfl) F0 (hd 5 47 rfl rfl) aE brq), (fun f W hst hbl hd hf => dP jD rfl (hd 6 48 rfl rfl) G0 hbl (i := 0) rfl rfl brq), (fq_ lD (B0.at 5)), (fun f W hst hbl hd hf => aN uF (hd 8 50 rfl rfl) brq), (fun f W hst hbl hd hf => aW dA rfl (hd 9 51 rfl rfl) (hst.get 1 rfl) (i := 1) rfl rfl brq), (fq_ uD (B0.at 3)), (fun f W hst hbl hd hf => aW dA rfl (hd 11 53 rfl rfl) (hst.get 3 rfl) (i := 1) rfl rfl brq), (fq_ pQ (B0.at 5)), (fun f W hst hbl hd hf => aW dA rfl (hd 13 55 rfl rfl) (hst.get 1 rfl) (i := 0) rfl rfl brq), (mq_ (B0.at 8)), (fun f W hst hbl hd hf => dD (vs := [(0, I r.plan.prio), (1, I (seq + ((cE was r k).length : Int))), (2, I r.id), (3, I (k : Int))]) (cs := [I r.plan.prio, I (seq + ((cE was r k).length : Int)), I r.id, I (k : Int)]) (bR (v := I r.plan.prio) (hd 10 52 rfl rfl) (bR (v := I (seq + ((cE was r k).length : Int))) (hd 12 54 rfl rfl) (bR (v := I r.id) (hd 14 56 rfl rfl) (bR (v := I (k : Int)) (hd 15 57 rfl rfl) dJ)))) aD brq), ?_, trivial⟩ ?_
   ·intro f W ru oth hu hst hbl hd hf
    have m0 : ru = [] := hu
    subst m0
    try simp only [cap_, cL] at hst
    refine (bN func187 rfl (hd 7 49 rfl rfl) (hd 16 58 rfl rfl) ((uM W (B.below hbl) (show Shape.C _ [I r.plan.prio, I (seq + ((cE was r k).length : Int)), I r.id, I (k : Int)] (⟨r.plan.prio, seq + ((cE was r k).length : Int), r.id, (k : Int)⟩ : Entry) [] from ⟨rfl, rfl, fF⟩) aE).mono ?_)); rintro _ c ⟨J0, a, rfl, d⟩; refine ⟨_, rfl, ?_⟩
    have g := St.call hst d
    exact ⟨⟨J0, rfl⟩, ⟨_, ⟨_, _, rfl, ⟨(J0, a), (ce rfl rfl), rfl⟩, rfl⟩, g⟩, (hbl.trans (Below.mono d.below hbl.size))⟩
   intro K0 j rs_ hAL_ n p L0 M0
   obtain ⟨_, _, rfl, ⟨⟨J0, a⟩, c, rfl⟩, m0⟩ := hAL_
   have m0 : _ = [] := m0
   subst m0
   have N0 : K0 59 = J0 := congrArg (fun l => l.getD 0 undef) c
   try simp only [cap_, cL] at n
   have d := n.f5
   have t := St.lendx (α := List Entry) aZ d (x := (dV (bL r.id).toNat r.plan.prio r.id (cE was r k) xss seq).getD (bL r.id).toNat []) (getD_some aE)
   obtain ⟨a, g, j, p, post119, c, q, O0, A, B⟩ := t
   have t := B.f1.uncs1
   obtain ⟨n, P0, Q0⟩ := t; subst P0
   refine sg (aT eO (L0 1 43 aZ rfl) O0 (L0 2 44 aZ rfl) aE (sgn (bS (i := 0) (v := J0) (C' := [J0]) aD rfl N0 (Sl.cells (aM (Q0.f1.get 3 rfl))) (Sl.one (aM (Q0.f1.get 3 rfl))) Q0.f1 rfl bH rfl ?_))); intro a c
   refine aB (aA (rn c 4 (Ag.cons (show K0 3 = pt_ z from ((M0 3 rfl).trans (B0.at 3))) (Ag.cons (show K0 4 = pt_ D from ((M0 4 rfl).trans (B0.at 4))) (Ag.cons (show K0 5 = pt_ G from ((M0 5 rfl).trans (B0.at 5))) (Ag.cons (show K0 6 = pt_ J from ((M0 6 rfl).trans (B0.at 6))) (Ag.cons (show K0 7 = I (bL r.id) from ((M0 7 rfl).trans (B0.at 7))) (Ag.cons (show K0 8 = I (k : Int) from ((M0 8 rfl).trans (B0.at 8))) Ag.nil)))))).put [] [(63, I ((seq + ((cE was r k).length : Int)) + 1)), (64, .pointer (some ⟨z, 1, none⟩))] [qb 7 rfl 1, qad (seq + ((cE was r k).length : Int)) 1] aD fun a d => (sgn (aO (v := I ((seq + ((cE was r k).length : Int)) + 1)) (C' := [I now, I ((seq + ((cE was r k).length : Int)) + 1), vs, vr]) aD (d.at 64) (d.at 63) rfl rfl c.f7 bH rfl ?_)))); intro g j
   refine aB (aA (rn j 3 d [8] [(8, I ((k : Int) + 1))] [qad (k : Int) 1] aD fun a n => (aB ?_)))
   have p := j.f4.cs1
   have t := St.give (α := List Entry) p.f4.f1.f3
   obtain ⟨q, z⟩ := t
   exact ⟨_, r.tasks.length - (k + 1), aE, rfl, k + 1, q, aE, rfl, (n.to aD), (by rw [zI aE Y (.inr ⟨by omega, C0⟩), mV, length_append, length_singleton, show seq + (((cE was r k).length + 1 : Nat) : Int) = seq + ((cE was r k).length : Int) + 1 by omega]; exact z.f1.f5.f5.f5.d5)⟩
  have Z := gL Y
  refine rn O 22 P.put [] [(41, .bool true)] [qb 1 rfl 7, qx S, qn T 0, qk Z] aD fun t a => (aB (gY (a.at 41) rfl (wp_exit (aA (rn O 3 a [8] [(8, I ((k : Int) + 1))] [qad (k : Int) 1] aD fun c d => (aB ?_))))))
  exact ⟨_, r.tasks.length - (k + 1), aE, rfl, k + 1, M, aE, rfl, (d.to aD), (by rw [xM aE Y]; exact O)⟩
 refine wp_exit (wp_seq (aA (sg (aS (cs := [I now, I (seq + ((cE was r k).length : Int)), vs, vr]) aL rfl (P.at 3) (O.get 3 rfl) rfl rfl (sgn (aK (C' := [I now, I (seq + ((cE was r k).length : Int)), vs, vr]) aD (P.at 6) rfl (aC rfl (aC rfl (aC (Sl.one (aM (O.get 4 rfl))) (aC hvr bE)))) O bH rfl ?_)))))); intro t a
 refine aB (wr (eT aL rfl results168 (P.at 6) (a.get 0 rfl) rfl ?_))
 have hke : k = r.tasks.length := by omega
 have hfe : cE was r k = kF was r := by rw [hke]; rfl
 rw [hfe] at a
 have c := a.f4
 exact ⟨_, by rw [← hfe], c.d1.d1.d1.d1⟩
theorem HoldsI_n {y : Yard} (hc : Shape.C w cs y fp) (id task try_ : Int) (hw : y.wt ≤ 1048576) (hix : eQ y id = none) :
  Calls prog 109 #[.agg cs.toArray, I id, I task, I try_] w (rB_ (gC y id task try_) w) := by
 refine oK func109 rfl ntmps109 aZ (wp_seq (aA (sg (aI (cs := cs) rfl (St.start w) ?_)))); intro t a c d
 refine sg (aG (aB (wp_seq (aA (rc d 4 Ag.nil.put.put.put.put.put.put [] [(9, I (-1))] [qw 0 rfl (Shape.len hc), qc func98 rfl (fun W s b => aI5 W (aR hc s.below) id hw hix)] aD fun f9 g j t a => (aB (wp_seq (wp_seq (aA ?_)))))))))
 rcases nem ((-1) < 0) with c | c
 ·have n := decide_eq_false c
  omega
 have n := decide_eq_true c
 refine rn t 15 j [] [(28, .bool true)] [qk n] aD fun f15 d => (aB (gY (d.at 28) rfl (wp_seq (aA (sg (aG (aB (wr (bA results109 rfl ?_)))))))))
 exact ⟨(fB (by unfold gC; rw [hix])), t.bare⟩
theorem HoldsI_s {y : Yard} (hc : Shape.C w cs y fp) (id task try_ : Int) (hw : y.wt ≤ 1048576) {i : Nat} (hix : eQ y id = some i) :
  Calls prog 109 #[.agg cs.toArray, I id, I task, I try_] w (rB_ (gC y id task try_) w) := by
 have hil := sM hix
 have hyk := lY hil
 have hrw : y.runs[i].tasks.length ≤ y.runs[i].wt := by unfold Run.wt; omega
 refine oK func109 rfl ntmps109 aZ (wp_seq (aA (sg (aI (cs := cs) rfl (St.start w) ?_)))); intro t a c d
 refine sg (aG (aB (wp_seq (aA (rc d 4 Ag.nil.put.put.put.put.put.put [] [(9, I (i : Int))] [qw 0 rfl (Shape.len hc), qc func98 rfl (fun W s b => nU W (aR hc s.below) id hw hix)] aD fun f9 t g j a => (aB (wp_seq (wp_seq (aA ?_)))))))))
 rcases nem ((i : Int) < 0) with n | n
 ·have p := decide_eq_false n
  have q := hc
  obtain ⟨c, d, z, A, rfl, B, D, E, rfl⟩ := q
  have F : i < y.runs.length := aE
  have G := idx E (i := i) F
  obtain ⟨t, a, H, J, K, L, M, N⟩ := G
  have O := M
  obtain ⟨P, R, S, T, rfl, c, d, z, rfl⟩ := O
  refine rc j 15 g [] [(28, .bool (!(inB task 0 (((y.runs[i]'F).tasks.length : Int) - 1))))] [qk p, qb 0 rfl 3, qx K, qr L 7, ql z, qsb ((y.runs[i]'F).tasks.length : Int) 1, qc (args := [I task, I 0, I (((y.runs[i]'F).tasks.length : Int) - 1)]) (v := .bool (inB task 0 (((y.runs[i]'F).tasks.length : Int) - 1))) func47 rfl (fun W s b => cF W task 0 (((y.runs[i]'F).tasks.length : Int) - 1)), .o] aD fun t a c d g => (aB (bZ (c.at 28) (fun U => ?_) (fun U => ?_)))
  ·have j := cU (aY U)
   refine wp_seq (aA (sg (aG (aB (wr (bA results109 rfl ?_))))))
   exact ⟨(fB (by unfold gC; rw [hix]; simp only [getElem?_eq_getElem hil, (aY U), Bool.false_and])), d.bare⟩
  have j := inB_iff'.1 (aX U)
  refine wp_skip (wp_seq (aA ?_))
  have X : (task).toNat < (y.runs[i]'F).tasks.length := aE
  have G := idx z (i := (task).toNat) X
  obtain ⟨t, a, g, q, A, B, D, E⟩ := G
  refine rn d 9 c [] [(37, .agg g.toArray)] [qb 0 rfl 3, qx K, qr L 7, qxe A (e := task) aE, qrw B (Shape.len D)] aD fun j Y => (sg (aQ iD d ?_)); intro z H t a
  refine sgn (aJ (cs := g) iI D rfl (Y.at 37) a rfl ?_); intro c Z
  refine aB (wp_seq (aA ?_))
  have a0 := D
  obtain ⟨b0, rfl, q⟩ := a0
  have b0 : _ = [I ((y.runs[i]'F).tasks[(task).toNat]'X).state, I ((y.runs[i]'F).tasks[(task).toNat]'X).need, I ((y.runs[i]'F).tasks[(task).toNat]'X).try_, I ((y.runs[i]'F).tasks[(task).toNat]'X).until_] := b0
  subst b0
  rcases nem (((y.runs[i]'F).tasks[(task).toNat]'X).state = 3) with t | t
  ·have a := decide_eq_false t
   refine rn Z 10 Y.put [8] [(8, .bool false)] [qb 0 rfl 0, qk a] aD fun c d => (aB (wr (bA results109 (d.at 8) ?_)))
   have hB_ := (aX U)
   have htl : task.toNat < y.runs[i].tasks.length := by omega
   exact ⟨(fB (by unfold gC; rw [hix]; simp only [getElem?_eq_getElem hil, getElem?_eq_getElem htl, hB_, a, Bool.true_and, Bool.and_true, Bool.false_and, Bool.and_false])), Z.bare⟩
  have a := decide_eq_true t
  refine rn Z 10 Y.put [8] [(8, .bool (decide (((y.runs[i]'F).tasks[(task).toNat]'X).try_ = try_)))] [qb 0 rfl 0, qk a, qb 0 rfl 2, .o] aD fun c d => (aB ?_)
  rcases nem (((y.runs[i]'F).tasks[(task).toNat]'X).try_ = try_) with g | g
  ·have j := decide_eq_false g
   refine wr (bA results109 ((d.at 8).trans (congrArg Value.bool j)) ?_)
   have hB_ := (aX U)
   have htl : task.toNat < y.runs[i].tasks.length := by omega
   exact ⟨(fB (by unfold gC; rw [hix]; simp only [getElem?_eq_getElem hil, getElem?_eq_getElem htl, hB_, a, j, Bool.true_and, Bool.and_true, Bool.false_and, Bool.and_false])), Z.bare⟩
  have j := decide_eq_true g
  refine wr (bA results109 ((d.at 8).trans (congrArg Value.bool j)) ?_)
  have hB_ := (aX U)
  have htl : task.toNat < y.runs[i].tasks.length := by omega
  exact ⟨(fB (by unfold gC; rw [hix]; simp only [getElem?_eq_getElem hil, getElem?_eq_getElem htl, hB_, a, j, Bool.true_and, Bool.and_true, Bool.false_and, Bool.and_false])), Z.bare⟩
 have p := decide_eq_true n
 omega
theorem aK0 {y : Yard} (hc : Shape.C w cs y fp) (id task try_ : Int) (hw : y.wt ≤ 1048576)  :
  Calls prog 109 #[.agg cs.toArray, I id, I task, I try_] w (rB_ (gC y id task try_) w) := by
 cases hix : eQ y id with
 | none => exact HoldsI_n w hc id task try_ hw hix
 | some i => exact HoldsI_s w hc id task try_ hw hix
theorem HoldsS_n {y : Yard} (hc : Shape.C w cs y fp) (id task try_ : Int) (hw : y.wt ≤ 1048576) (hix : eQ y id = none) :
  Calls prog 184 #[.agg cs.toArray, I id, I task, I try_] w (rB_ (gC y id task try_) w) := by
 refine oK func184 rfl ntmps184 aZ (wp_seq (aA (sg (aI (cs := cs) rfl (St.start w) ?_)))); intro t a c d
 refine sg (aG (aB (wp_seq (aA (rc d 4 Ag.nil.put.put.put.put.put.put [] [(9, I (-1))] [qw 0 rfl (Shape.len hc), qc func90 rfl (fun W s b => aI4 W (aR hc s.below) id hw hix)] aD fun f9 g j t a => (aB (wp_seq (aA ?_))))))))
 rcases nem (0 ≤ (-1)) with c | c
 ·have n := decide_eq_false c
  refine rn t 42 j [8] [(8, .bool false)] [qk n] aD fun f15 d => (aB (wr (bA results184 (d.at 8) ?_)))
  exact ⟨(fB (by unfold gC; rw [hix])), t.bare⟩
 have n := decide_eq_true c
 omega
theorem HoldsS_s {y : Yard} (hc : Shape.C w cs y fp) (id task try_ : Int) (hw : y.wt ≤ 1048576) {i : Nat} (hix : eQ y id = some i) :
  Calls prog 184 #[.agg cs.toArray, I id, I task, I try_] w (rB_ (gC y id task try_) w) := by
 have hil := sM hix
 have hyk := lY hil
 have hrw : y.runs[i].tasks.length ≤ y.runs[i].wt := by unfold Run.wt; omega
 refine oK func184 rfl ntmps184 aZ (wp_seq (aA (sg (aI (cs := cs) rfl (St.start w) ?_)))); intro t a c d
 refine sg (aG (aB (wp_seq (aA (rc d 4 Ag.nil.put.put.put.put.put.put [] [(9, I (i : Int))] [qw 0 rfl (Shape.len hc), qc func90 rfl (fun W s b => nT W (aR hc s.below) id hw hix)] aD fun f9 t g j a => (aB (wp_seq (aA ?_))))))))
 rcases nem (0 ≤ (i : Int)) with c | c
 ·have n := decide_eq_false c
  omega
 have n := decide_eq_true c
 have p := hc
 obtain ⟨d, q, z, A, rfl, B, D, E, rfl⟩ := p
 have F : i < y.runs.length := aE
 have G := idx E (i := i) F
 obtain ⟨t, a, H, J, K, L, M, N⟩ := G
 have O := M
 obtain ⟨c, P, R, S, rfl, d, q, T, rfl⟩ := O
 rcases bd (inB task 0 (((y.runs[i]'F).tasks.length : Int) - 1)) with U | U
 ·have p := cU U
  refine rc j 42 g [8] [(8, .bool false)] [qk n, qb 0 rfl 3, qx K, qr L 7, ql T, qsb ((y.runs[i]'F).tasks.length : Int) 1, qcb (args := [I task, I 0, I (((y.runs[i]'F).tasks.length : Int) - 1)]) func43 rfl U (fun W s b => cR W task 0 (((y.runs[i]'F).tasks.length : Int) - 1))] aD fun t a c d q => (aB (wr (bA results184 (c.at 8) ?_)))
  exact ⟨(fB (by unfold gC; rw [hix]; simp only [getElem?_eq_getElem hil, U, Bool.false_and])), d.bare⟩
 have p := inB_iff'.1 U
 have X : (task).toNat < (y.runs[i]'F).tasks.length := aE
 have G := idx T (i := (task).toNat) X
 obtain ⟨t, a, q, z, Y, Z, c, A⟩ := G
 have a0 := c
 obtain ⟨b0, rfl, B⟩ := a0
 have b0 : _ = [I ((y.runs[i]'F).tasks[(task).toNat]'X).state, I ((y.runs[i]'F).tasks[(task).toNat]'X).need, I ((y.runs[i]'F).tasks[(task).toNat]'X).try_, I ((y.runs[i]'F).tasks[(task).toNat]'X).until_] := b0
 subst b0
 rcases nem (((y.runs[i]'F).tasks[(task).toNat]'X).state = 3) with t | t
 ·have a := decide_eq_false t
  refine rc j 42 g [8] [(8, .bool false)] [qk n, qb 0 rfl 3, qx K, qr L 7, ql T, qsb ((y.runs[i]'F).tasks.length : Int) 1, qcb (args := [I task, I 0, I (((y.runs[i]'F).tasks.length : Int) - 1)]) func43 rfl U (fun W s b => cR W task 0 (((y.runs[i]'F).tasks.length : Int) - 1)), qb 0 rfl 3, qx K, qr L 7, qxe Y (e := task) aE, qr Z 0, qk a] aD fun c d p q z => (aB (wr (bA results184 (p.at 8) ?_)))
  have hB_ := U
  have htl : task.toNat < y.runs[i].tasks.length := by omega
  exact ⟨(fB (by unfold gC; rw [hix]; simp only [getElem?_eq_getElem hil, getElem?_eq_getElem htl, hB_, a, Bool.true_and, Bool.and_true, Bool.false_and, Bool.and_false])), q.bare⟩
 have a := decide_eq_true t
 refine rc j 42 g [8] [(8, .bool (decide (((y.runs[i]'F).tasks[(task).toNat]'X).try_ = try_)))] [qk n, qb 0 rfl 3, qx K, qr L 7, ql T, qsb ((y.runs[i]'F).tasks.length : Int) 1, qcb (args := [I task, I 0, I (((y.runs[i]'F).tasks.length : Int) - 1)]) func43 rfl U (fun W s b => cR W task 0 (((y.runs[i]'F).tasks.length : Int) - 1)), qb 0 rfl 3, qx K, qr L 7, qxe Y (e := task) aE, qr Z 0, qk a, qb 0 rfl 3, qx K, qr L 7, qxe Y (e := task) aE, qr Z 2, .o] aD fun t c d g j => (aB ?_)
 rcases nem (((y.runs[i]'F).tasks[(task).toNat]'X).try_ = try_) with n | n
 ·have p := decide_eq_false n
  refine wr (bA results184 ((d.at 8).trans (congrArg Value.bool p)) ?_)
  have hB_ := U
  have htl : task.toNat < y.runs[i].tasks.length := by omega
  exact ⟨(fB (by unfold gC; rw [hix]; simp only [getElem?_eq_getElem hil, getElem?_eq_getElem htl, hB_, a, p, Bool.true_and, Bool.and_true, Bool.false_and, Bool.and_false])), g.bare⟩
 have p := decide_eq_true n
 refine wr (bA results184 ((d.at 8).trans (congrArg Value.bool p)) ?_)
 have hB_ := U
 have htl : task.toNat < y.runs[i].tasks.length := by omega
 exact ⟨(fB (by unfold gC; rw [hix]; simp only [getElem?_eq_getElem hil, getElem?_eq_getElem htl, hB_, a, p, Bool.true_and, Bool.and_true, Bool.false_and, Bool.and_false])), g.bare⟩
theorem HoldsS {y : Yard} (hc : Shape.C w cs y fp) (id task try_ : Int) (hw : y.wt ≤ 1048576)  :
  Calls prog 184 #[.agg cs.toArray, I id, I task, I try_] w (rB_ (gC y id task try_) w) := by
 cases hix : eQ y id with
 | none => exact HoldsS_n w hc id task try_ hw hix
 | some i => exact HoldsS_s w hc id task try_ hw hix
theorem zz_int : gD prog 3 [I 0] := by unfold gD; kernel_rfl
theorem pG {r : Run} (h : RunIs r) {i : Nat} {t : Task} (ht : r.tasks[i]? = some t) (h3 : t.state = 3) : dY r (i : Int) = cS r i := by
 have hl := (gsi_.1 ht).1
 have hb : mF r (i : Int) = true := by
  unfold mF
  rw [runIs.2 h, inB_iff'.2 (show 0 ≤ (i : Int) ∧ (i : Int) ≤ (r.tasks.length : Int) - 1 by omega), Int.toNat_natCast, ht]
  simp [h3]
 unfold dY
 rw [if_pos hb, Int.toNat_natCast, failsS_eq h ht h3]
theorem aF2 {y : Yard} {k i : Nat} {r : Run} (hr : y.runs[k]? = some r) (hi : i = r.tasks.length) : eZ (dR y k) k i = dR y (k + 1) := by
 show _ = eZ (dR y k) k (tQ y k)
 rw [tP hr, hi]
theorem RI.ok {y out : Yard} {n : Nat} (hy : YardIs y) (h : RI y out n) (hn : n ≤ 1000) : out.ok := by
 have s := h.now; have t := h.seq; have a := hy.now; have b := hy.seq
 exact ⟨by unfold I64; omega, by unfold I64; omega⟩
theorem aJ1 {α : Type} (f : α → Nat) (m : Nat) : ∀ xs : List α, (∀ x ∈ xs, f x ≤ m) → (xs.map f).sum ≤ xs.length * m
 | [], _ => by simp
 | x :: xs, h => by
  have h1 := h x (by simp)
  have h2 := aJ1 f m xs (fun z hz => h z (by simp [hz]))
  simp only [map_cons, sum_cons, length_cons, Nat.succ_mul]
  omega
theorem RunIs.wt {r : Run} (h : RunIs r) : r.wt ≤ 42 := by
 have := h.small
 unfold Run.wt Plan.wt
 omega
theorem RI.wt {y out : Yard} {n : Nat} (hy : YardIs y) (h : RI y out n) (hn : n ≤ 1000) : out.wt ≤ 100000 := by
 have t := h.shelf
 have a := hy.shelf
 have b := h.runs
 have c := hy.runs
 have hs := aJ1 (fun z : List Entry => z.length) 20000 out.shelf (fun z hz => by
  obtain ⟨s, hs, rfl⟩ := getElem_of_mem hz
  have := h.each s aE
  rw [getD_eq_getElem?_getD, getElem?_eq_getElem hs] at this
  simp only [Option.getD_some] at this
  omega)
 have hr := aJ1 (fun z : Run => z.wt) 42 out.runs (fun z hz => by
  obtain ⟨s, hs, rfl⟩ := getElem_of_mem hz
  obtain ⟨b, e, hR, _⟩ := h.run s _ (getElem?_eq_getElem (show s < y.runs.length by omega))
  rw [getElem?_eq_getElem hs] at e
  rw [Option.some.inj e]
  exact hR.wt)
 rw [t, a] at hs
 have c : out.runs.length * 42 ≤ 8 * 42 := Nat.mul_le_mul_right _ aE
 unfold Yard.wt wtL
 omega
theorem RI.chg {y out : Yard} {n : Nat} (hy : YardIs y) (h : RI y out n) (hn : n ≤ 1000) (id : Int) : 4 ≤ out.shelf.length ∧ (out.shelf.getD (bL id).toNat []).length ≤ 1000000 ∧ (0 ≤ out.seq ∧ out.seq ≤ 4000000000) := by
 have s := h.shelf; have t := hy.shelf; have a := iA id; have b := h.each (bL id).toNat aE; have c := h.seq; have d := hy.seq
 refine ⟨by omega, by omega, by omega⟩

theorem aM8 {w W0 : World} {rs : List Res} {k : Nat} {y : Yard} {vs vr : Value} {fp fq fr : List Nat} {csr : List Value} {was r : Run} (hst : St w W0 (Res.own vs y.shelf fp :: Res.own vr y.runs fq :: Res.own (.agg csr.toArray) r fr :: rs)) (hk : y.runs[k]? = some was) (hss : 4 ≤ y.shelf.length) (hrl : r.tasks.length ≤ 1000) (hln : (y.shelf.getD (bL r.id).toNat []).length ≤ 1000000) (hsq : 0 ≤ y.seq ∧ y.seq ≤ 4000000000) :
  Calls prog 104 #[.agg #[I y.now, I y.seq, vs, vr], I (k : Int), .agg csr.toArray] W0 fun e w' => ∃ (fp' fq' : List Nat), e = .returned (.agg #[I (cZ y k was r).now, I (cZ y k was r).seq, vs, vr]) ∧ St w w' (Res.own vs (cZ y k was r).shelf fp' :: Res.own vr (cZ y k was r).runs fq' :: rs) := by
 refine iS func104 rfl ntmps104 aZ (wp_seq (aA (sg (aI (cs := [I y.now, I y.seq, vs, vr]) rfl hst ?_)))); intro s t a b
 refine sg (aI (cs := csr) rfl b ?_); intro c d g j
 refine sg (aQ cI j ?_); intro n p q z
 refine aB (wp_seq (aA (rn z 3 Ag.nil.put.put.put.put.put.put [] [(9, vr), (10, I (k : Int))] [qb 2 rfl 3] aD fun s t => ?_)))
 have a := St.lendx (α := Run) aZ z.f4 (x := was) hk
 obtain ⟨b, c, d, g, post19, j, A, B, n, p⟩ := a
 have q := p.f1.uncs rfl
 refine sg (aT dS (t.at 9) B (t.at 10) rfl (sg (sE bP rfl rfl (q.get 1 rfl) rfl (Shape.len (bB (q.get 0 rfl) rfl)) (sg (aQ fN q ?_))))); intro s c z C
 refine sgn (aJ (cs := g) bP (bB (C.get 1 rfl) rfl) rfl rfl C rfl ?_); intro j n
 refine aB (wp_seq (aA (rn n 5 t.put.put.put [] [(16, .agg csr.toArray), (17, .pointer (some ⟨b, d.length, none⟩))] [qb 6 rfl 3, qw 5 rfl (Shape.len (bB (n.get 8 rfl) rfl)), qx B] aD fun s c => (sgn (kS (cs := csr) bP (bB (n.f2.get 8 rfl) rfl) (c.at 17) (c.at 16) n.f2 rfl (Shape.len (bB (n.f2.get 2 rfl) rfl)) ?_))))); intro t j
 refine aB (wp_seq (aA (rn j 3 c [] [(18, .agg #[I y.now, I y.seq, vs, vr]), (19, .agg g.toArray), (20, .agg csr.toArray)] [qb 6 rfl 0, qw 1 rfl (Shape.len (bB (j.get 2 rfl) rfl)), qw 5 rfl (Shape.len (bB (j.get 8 rfl) rfl))] aD fun s b => (sg (eL func168 rfl (b.at 18) (b.at 19) (b.at 20) ((LayS j.f7 (yG B) (fun W_ h_ => ⟨_, bB (h_.get 2 rfl) rfl⟩) (fun W_ h_ => ⟨_, bB (h_.get 7 rfl) rfl⟩) hss aE hln hsq).mono ?_)))))); rintro _ t ⟨c, rfl, d⟩; refine ⟨_, rfl, ?_⟩
 refine sgn (aK aD (b.at 6) rfl (aC rfl (aC rfl (aC (Sl.one (aM (d.f5.get 1 rfl))) (aC (yG B) bE)))) d.f5 bH rfl ?_); intro s t
 refine aB (wr (eT aL rfl results104 (b.at 6) (t.get 0 rfl) rfl ?_))
 have c := t.f8.cs rfl
 have a := St.give (α := Run) c.f6.f1.f4
 obtain ⟨g, j⟩ := a
 exact ⟨_, _, rfl, j.f2.d2.d2.d2.d2.d2⟩
theorem RestartC {w W0 : World} {ty : TypeId} {rs : List Res} {b : Nat} {pre cs post : List Value} {r : Run} {fp : List Nat} (hst : St w W0 (Res.bx b (pre ++ cs ++ post) ty :: Res.own (.agg cs.toArray) r fp :: rs)) {bt : Nat} {tt : TypeId} (i : Nat) {t : Task} (hB : ∀ W', St w W' rs → (Res.bx bt [I (i : Int)] tt).holds W') (hti : r.tasks[i]? = some t) (hw : r.tasks.length ≤ 1048576) :
  Calls prog 111 #[.pointer (some ⟨b, pre.length, none⟩), pt_ bt] W0 fun e w' => ∃ (cs' : List Value) (fp' : List Nat), e = .returned (.tuple #[]) ∧ St w w' (Res.bx b (pre ++ cs' ++ post) ty :: Res.own (.agg cs'.toArray) (cS r i) fp' :: rs) := by
 refine bY func111 rfl ntmps111 aZ (aA (sg (aH (v := .pointer (some ⟨b, pre.length, none⟩)) rfl (sg (dP dA rfl rfl (bQ (hB _ (St.dropn 2 hst))) (Below.refl _ _) (i := 0) rfl rfl ?_)))))
 have s := hst.f1
 refine sg (bN func112 rfl rfl rfl ((aK1 s.f1 i hti hw).mono ?_)); rintro _ a ⟨c, d, rfl, g⟩; refine ⟨_, rfl, ?_⟩
 refine aB ?_
 repeat (first | refine iO ?_ | refine jN ?_ | refine iP rfl ?_)
 refine yK results111 ?_
 exact ⟨_, _, rfl, g.f1.f1⟩
theorem RestartI {y : Yard} (hc : Shape.C w cs y fp) (hw : y.wt ≤ 1048576) :
  Calls prog 54 #[.agg cs.toArray] w (rO_ (eU y) w) := by
 refine cN func54 rfl ntmps54 aZ (wp_seq (aA (sg (aI (cs := cs) rfl (St.start w) ?_)))); intro t a c d
 refine sg (aQ cI d ?_); intro g j n p
 refine aB (wp_seq (aA (sg (aV aL rfl rfl (p.get 1 rfl) (Shape.len hc) (sg (bC func108 rfl rfl ((iQ j (aR hc p.below) aE).mono ?_))))))); rintro _ a ⟨c, q, rfl, z⟩; refine ⟨_, rfl, ?_⟩
 have d := St.call p z
 refine sg (aQ cI d ?_); intro A n B D
 refine sgn (aJ (cs := c) aL (bB (D.get 1 rfl) rfl) rfl rfl D rfl ?_); intro a j
 refine aB (wp_seq (wp_seq (aA (rc j 3 Ag.nil.put.put.put.put.put.put [] [(12, .bool (!(dB y)))] [qw 3 rfl (Shape.len hc), qc func46 rfl (fun W s b => nE W (aR hc s.below) aE), .o] aD fun d n E F p => (aB (bZ (E.at 12) (fun G => ?_) (fun G => ?_)))))))
 ·refine wp_seq (aA (sg (aV aL rfl (E.at 3) (F.get 0 rfl) (Shape.len (bB (F.get 1 rfl) rfl)) (sgn (aJ (cs := c) aL (bB (F.f2.get 2 rfl) rfl) (E.at 2) rfl F.f2 rfl ?_))))); intro a d
  refine aB (wr (eT aL rfl results54 (E.at 2) (d.get 0 rfl) (Shape.len (bB (d.get 2 rfl) rfl)) ?_))
  have hfe : eU y = y := by unfold eU; rw [(aY G)]; rfl
  rw [hfe]
  exact ⟨_, _, rfl, d.f2.d1.d1.d1⟩
 refine wp_skip (wp_seq (wp_seq ?_))
 have hY := iE (aX G)
 have a := hY.runs
 refine aA ?_
 have H := hc
 obtain ⟨J, K, c, j, rfl, n, p, L, rfl⟩ := H
 refine rn F 4 E [] [(15, K), (16, I (y.runs.length : Int)), (17, I 0)] [qb 3 rfl 3, ql L] aD fun d M => (aB (wp_block ?_))
 have N := eM F.f1
 obtain ⟨O, P, R, S, T, a, U⟩ := N
 subst T
 refine bF (fun (m : Nat) (f : Nat → Value) (W : World) => ∃ (k : Nat) (X : List Nat) (Y : List Nat), k ≤ y.runs.length ∧ m = y.runs.length - k ∧ Ag [(2, pt_ g), (3, pt_ A), (15, K), (16, I (y.runs.length : Int)), (17, I (k : Int))] f ∧ St w W ([Res.own (α := List (List Entry)) O (dR y k).shelf X, Res.own (α := List Run) P (dR y k).runs Y, Res.bx A [I (dR y k).now, I (dR y k).seq, O, P] 34, Res.bx g [I 0, I 0, .slice none 0 0, .slice none 0 0] 34, Res.bx t [I y.now, I y.seq, J, K] 34])) (y.runs.length - 0) ?_ ?_
 ·exact ⟨0, R, S, Nat.zero_le _, rfl, (M.to aD), U⟩
 intro a c d j
 obtain ⟨k, X, Y, hkl, rfl, Z, a0⟩ := j
 refine wp_seq (aA (sg (bU (Z.at 17) (Z.at 16) (aB (wp_seq (aP rfl (fun n => ?_) (fun n => ?_)))))))
 ·refine wp_skip (wp_seq (wp_block (wp_seq (aA (sg (aH (Z.at 17) ?_))))))
  have N := dW (xs := y.runs) (i := k) aE
  obtain ⟨b0, c0⟩ := N
  have a : k < y.runs.length := (gsi_.1 c0).1
  have N := eB L (i := k) c0
  obtain ⟨c, d, j, n, p, q, z, B⟩ := N
  refine sg (aT dS (Z.at 15) p (Z.at 17) rfl (sg (cY bP rfl rfl q a0.below (Shape.len z) (sg (aQ fN a0 ?_))))); intro e0 a D E
  refine sg (aF (v := I (k : Int)) rfl (sgn (aJ (cs := j) bP z rfl rfl E rfl ?_))); intro c f0
  refine aB (wp_seq (aA ?_))
  have g0 := z
  obtain ⟨h0, j0, d, n, rfl, p, q, a, rfl⟩ := g0
  refine rn f0 4 Z.put.put.put.put.put.put [] [(23, j0), (24, I (b0.tasks.length : Int)), (25, I 0)] [qb 0 rfl 7, ql a] aD fun j B => (aB (wp_block (bF (fun (m : Nat) (f : Nat → Value) (W : World) => ∃ (i : Nat) (k0 : List Nat) (l0 : List Nat), i ≤ b0.tasks.length ∧ m = b0.tasks.length - i ∧ Ag [(2, pt_ g), (3, pt_ A), (4, I (k : Int)), (5, pt_ e0), (15, K), (16, I (y.runs.length : Int)), (17, I (k : Int)), (23, j0), (24, I (b0.tasks.length : Int)), (25, I (i : Int))] f ∧ St w W ([Res.bx e0 [I b0.id, I b0.plan.prio, I b0.plan.most, I b0.plan.wait, I b0.plan.tasks, h0, I b0.state, j0] 123, Res.own (α := List (List Entry)) O (eZ (dR y k) k i).shelf k0, Res.own (α := List Run) P (eZ (dR y k) k i).runs l0, Res.bx A [I (eZ (dR y k) k i).now, I (eZ (dR y k) k i).seq, O, P] 34, Res.bx g [I 0, I 0, .slice none 0 0, .slice none 0 0] 34, Res.bx t [I y.now, I y.seq, J, K] 34])) (b0.tasks.length - 0) ?_ ?_)))
  ·exact ⟨0, X, Y, Nat.zero_le _, rfl, (B.to aD), f0⟩
  intro c d j n
  obtain ⟨i, k0, l0, hil, rfl, m0, n0⟩ := n
  refine wp_seq (aA (sg (bU (m0.at 25) (m0.at 24) (aB (wp_seq (aP rfl (fun p => ?_) (fun p => ?_)))))))
  ·refine wp_skip (wp_seq (wp_block (wp_seq (aA (sg (aH (m0.at 25) ?_))))))
   have N := dW (xs := b0.tasks) (i := i) aE
   obtain ⟨o0, c⟩ := N
   have d := (hY.run k b0 c0).1.small
   have p0 : 12 * k + i ≤ 1000 := by omega
   have hRIk := RI.at hY (k := k) (i := i) aE
   have N := hRIk.holds hY c0 c
   obtain ⟨q0, s0, t0, v0, w0, hhb⟩ := N
   have j : i < b0.tasks.length := (gsi_.1 c).1
   have N := eB a (i := i) c
   obtain ⟨d, n, p, q, z, B, D, E⟩ := N
   refine sg (aT gH (m0.at 23) z (m0.at 25) rfl (sg (cY iI rfl rfl B n0.below (Shape.len D) (sg (aQ zz_int n0 ?_))))); intro x0 j F H
   refine sg (aQ iD H ?_); intro y0 a c d
   refine sgn (aO (v := I (i : Int)) aD rfl rfl rfl rfl d.f1 bH rfl ?_); intro n q
   refine sgn (aJ (cs := p) iI D rfl rfl q.f1 rfl ?_); intro j z0
   refine aB (wp_seq (aA ?_))
   have A0 := D
   obtain ⟨B0, rfl, a⟩ := A0
   have B0 : _ = [I o0.state, I o0.need, I o0.try_, I o0.until_] := B0
   subst B0
   refine rn z0 6 m0.put.put.put.put.put.put [] [(30, .agg #[I (eZ (dR y k) k i).now, I (eZ (dR y k) k i).seq, O, P]), (32, I b0.id), (33, I (i : Int)), (35, I o0.try_)] [qb 5 rfl 0, qb 2 rfl 0, qb 1 rfl 0, qb 0 rfl 2] aD fun a c => ?_
   have hwO : (eZ (dR y k) k i).wt ≤ 1048576 := Nat.le_trans (hRIk.wt hY p0) aE
   refine rc z0 1 c [] [(36, .bool (gC (eZ (dR y k) k i) b0.id (i : Int) o0.try_))] [qc func109 rfl (fun W s b => aK0 W (show Shape.C _ [I (eZ (dR y k) k i).now, I (eZ (dR y k) k i).seq, O, P] (eZ (dR y k) k i) _ from ⟨_, _, _, _, rfl, (hRIk.ok hY p0), (aM (s.get 3 rfl)), (aM (s.get 4 rfl)), rfl⟩) b0.id (i : Int) o0.try_ aE)] aD fun a c d j n => (aB (bZ (d.at 36) (fun p => ?_) (fun p => ?_)))
   ·refine aA (sg (aH (d.at 4) (sg (gQ nZ (pJ (d.at 6) nZ) ?_))))
    have HH := p
    have q : s0.state = 3 := by simpa using hhb.symm.trans HH
    have ch_q0 := hRIk.chg hY p0 (cS q0 i).id
    obtain ⟨ch_s, ch_n, ch_q⟩ := ch_q0
    have ch_r := t0
    have ch_R := v0.fails w0 q
    have ch_l : q0.tasks.length ≤ 1000 := by have := v0.small; omega
    have ch_l2 : (cS q0 i).tasks.length ≤ 1000 := by have := ch_R.small; omega
    have ch_ok := ch_R.small.1
    refine sg (eL func110 rfl (d.at 3) rfl rfl ((vQ (y := (eZ (dR y k) k i)) (k := k) (r := q0) (r' := (cS q0 i)) (capt := [pt_ x0]) j.f4.f4.f5 ch_r ch_l ch_l2 ch_ok ch_s ch_n ch_q func111 rfl (fun a c n z B D E F hh_ hs_ => RestartC hs_ i (fun W_ h_ => (hh_ W_ h_).get 1 rfl) w0 aE)).mono ?_)); rintro _ H ⟨L, M, rfl, N⟩; refine ⟨_, rfl, ?_⟩
    have R : St w H ([Res.bx A [I (cZ (eZ (dR y k) k i) k q0 (cS q0 i)).now, I (cZ (eZ (dR y k) k i) k q0 (cS q0 i)).seq, O, P] 34, Res.own (α := List (List Entry)) O (cZ (eZ (dR y k) k i) k q0 (cS q0 i)).shelf L, Res.own (α := List Run) P (cZ (eZ (dR y k) k i) k q0 (cS q0 i)).runs M, Res.bx y0 [I o0.state, I o0.need, I o0.try_, I o0.until_] 140, Res.bx x0 [I (i : Int)] 3, Res.bx e0 [I b0.id, I b0.plan.prio, I b0.plan.most, I b0.plan.wait, I b0.plan.tasks, h0, I b0.state, j0] 123, Res.bx g [I 0, I 0, .slice none 0 0, .slice none 0 0] 34, Res.bx t [I y.now, I y.seq, J, K] 34]) := N
    refine aB (aA (sg (bO (d.at 25) rfl dL (sg (aH (v := I ((i : Int) + 1)) rfl (aB ?_))))))
    exact ⟨_, b0.tasks.length - (i + 1), aE, rfl, i + 1, L, M, aE, rfl, (d.put.put.put.put.put.to aD), (by rw [show eZ (dR y k) k (i + 1) = cZ (eZ (dR y k) k i) k q0 (cS q0 i) from vF t0 w0 q]; exact R.f7.f7.f2.f4.f4.f7.d6.d6)⟩
   refine wp_skip (aA (sg (bO (d.at 25) rfl dL (sg (aH (v := I ((i : Int) + 1)) rfl (aB ?_))))))
   exact ⟨_, b0.tasks.length - (i + 1), aE, rfl, i + 1, k0, l0, aE, rfl, (d.put.put.to aD), (by rw [show eZ (dR y k) k (i + 1) = (eZ (dR y k) k i) from vG t0 w0 (by simpa using hhb.symm.trans p)]; exact j.f7.f7.f7.f7.f7.f7.d6.d6)⟩
  refine wp_exit (aA (sg (bO (m0.at 17) rfl dL (sg (aH (v := I ((k : Int) + 1)) rfl (aB ?_))))))
  exact ⟨_, y.runs.length - (k + 1), aE, rfl, k + 1, k0, l0, aE, rfl, (m0.put.put.put.to aD), (by rw [← aF2 c0 (show i = b0.tasks.length by omega)]; exact n0.f5.f5.f5.f5.f5.d5)⟩
 refine wp_exit (wp_seq (aA (sg (aS (cs := [I (dR y k).now, I (dR y k).seq, O, P]) aL rfl (Z.at 3) (a0.get 2 rfl) rfl rfl (sgn (aK aD (Z.at 2) rfl (aC rfl (aC rfl (aC (Sl.one (aM (a0.f3.get 1 rfl))) (aC (Sl.one (aM (a0.f3.get 2 rfl))) bE)))) a0.f3 bH rfl ?_)))))); intro t a
 refine aB (wr (eT aL rfl results54 (Z.at 2) (a.get 0 rfl) rfl ?_))
 have hke : k = y.runs.length := by omega
 have hfe : dR y k = eU y := by unfold eU; rw [(aX G), hke]; rfl
 have hok_ := (RI.outer hY k hkl).ok hY (by have := hY.runs; omega)
 rw [hfe] at a hok_
 have t := a.f2
 have c := cH (x := (eU y)) t.f2 hok_
 rw [hfe]
 exact ⟨_, _, rfl, c.d1.d1.d1⟩
theorem RestartS {y : Yard} (hc : Shape.C w cs y fp) (hw : y.wt ≤ 1048576) :
  Calls prog 51 #[.agg cs.toArray] w (rO_ (eU y) w) := by
 refine cN func51 rfl ntmps51 aZ (wp_seq (aA (sg (aI (cs := cs) rfl (St.start w) ?_)))); intro t a c d
 refine sg (aQ cI d ?_); intro g j n p
 refine aB (wp_seq (aA (sg (aV aL rfl rfl (p.get 1 rfl) (Shape.len hc) (sg (bC func71 rfl rfl ((hX j (aR hc p.below) aE).mono ?_))))))); rintro _ a ⟨c, q, rfl, z⟩; refine ⟨_, rfl, ?_⟩
 have d := St.call p z
 refine sg (aQ cI d ?_); intro A n B D
 refine sgn (aJ (cs := c) aL (bB (D.get 1 rfl) rfl) rfl rfl D rfl ?_); intro a j
 refine aB (wp_seq (wp_seq (aA (rc j 3 Ag.nil.put.put.put.put.put.put [] [(10, .bool (!(dB y)))] [qw 3 rfl (Shape.len hc), qc func42 rfl (fun W s b => nD W (aR hc s.below) aE), .o] aD fun d n E p q => (aB (bZ (E.at 10) (fun F => ?_) (fun F => ?_)))))))
 ·refine wp_seq (aA (sg (aV aL rfl (E.at 3) (p.get 0 rfl) (Shape.len (bB (p.get 1 rfl) rfl)) (sgn (aJ (cs := c) aL (bB (p.f2.get 2 rfl) rfl) (E.at 2) rfl p.f2 rfl ?_))))); intro a d
  refine aB (wr (eT aL rfl results51 (E.at 2) (d.get 0 rfl) (Shape.len (bB (d.get 2 rfl) rfl)) ?_))
  have hfe : eU y = y := by unfold eU; rw [(aY F)]; rfl
  rw [hfe]
  exact ⟨_, _, rfl, d.f2.d1.d1.d1⟩
 refine wp_skip (wp_seq (wp_seq ?_))
 have hY := iE (aX F)
 have a := hY.runs
 refine aA (sg (aG (aB (wp_block ?_))))
 have G := eM p.f1
 obtain ⟨H, J, K, L, M, c, N⟩ := G
 subst M
 refine bF (fun (m : Nat) (f : Nat → Value) (W : World) => ∃ (k : Nat) (d : List Nat) (a : List Nat), k ≤ y.runs.length ∧ m = y.runs.length - k ∧ Ag [(2, pt_ g), (3, pt_ A), (4, I (k : Int))] f ∧ St w W ([Res.own (α := List (List Entry)) H (dR y k).shelf d, Res.own (α := List Run) J (dR y k).runs a, Res.bx A [I (dR y k).now, I (dR y k).seq, H, J] 34, Res.bx g [I 0, I 0, .slice none 0 0, .slice none 0 0] 34, Res.bx t cs 34])) (y.runs.length - 0) ?_ ?_
 ·exact ⟨0, K, L, Nat.zero_le _, rfl, (E.put.to aD), N⟩
 intro c j n p
 obtain ⟨k, d, a, hkl, rfl, q, O⟩ := p
 have hRO := (RI.outer hY k hkl).runs
 refine wp_seq (wp_seq (aA (rn O 5 q [] [(16, .bool (decide ((k : Int) < ((dR y k).runs.length : Int))))] [qb 2 rfl 3, ql (aM (O.get 1 rfl)), .o] aD fun c P => (aB (aP (P.at 16) (fun j => ?_) (fun j => ?_))))))
 ·refine wp_skip (wp_seq (wp_block (wp_seq ?_)))
  have G := dW (xs := y.runs) (i := k) aE
  obtain ⟨R, S⟩ := G
  have n := (hY.run k R S).1.small
  refine aA (sg (aG (aB (wp_block (bF (fun (m : Nat) (f : Nat → Value) (W : World) => ∃ (i : Nat) (T : List Nat) (U : List Nat), i ≤ R.tasks.length ∧ m = R.tasks.length - i ∧ Ag [(2, pt_ g), (3, pt_ A), (4, I (k : Int)), (5, I (i : Int))] f ∧ St w W ([Res.own (α := List (List Entry)) H (eZ (dR y k) k i).shelf T, Res.own (α := List Run) J (eZ (dR y k) k i).runs U, Res.bx A [I (eZ (dR y k) k i).now, I (eZ (dR y k) k i).seq, H, J] 34, Res.bx g [I 0, I 0, .slice none 0 0, .slice none 0 0] 34, Res.bx t cs 34])) (R.tasks.length - 0) ?_ ?_)))))
  ·exact ⟨0, d, a, Nat.zero_le _, rfl, (P.put.to aD), O⟩
  intro c j X n
  obtain ⟨i, T, U, hil, rfl, Y, Z⟩ := n
  have a0 : 12 * k + i ≤ 1000 := by omega
  have hRIk := RI.at hY (k := k) (i := i) aE
  have G := hRIk.run k R S
  obtain ⟨b0, c0, e0, a, hlen2, d⟩ := G
  have c : b0.wt ≤ 1048576 := by have := e0.wt; omega
  have hwO : (eZ (dR y k) k i).wt ≤ 1048576 := Nat.le_trans (hRIk.wt hY a0) aE
  have hROk := hRIk.runs
  have hr2l := (gsi_.1 c0).1
  refine wp_seq (wp_seq (aA ?_))
  have j : k < (eZ (dR y k) k i).runs.length := (gsi_.1 c0).1
  have G := eB (aM (Z.get 1 rfl)) (i := k) c0
  obtain ⟨f0, g0, a, c, h0, j0, k0, d⟩ := G
  have l0 := k0
  obtain ⟨m0, n0, n, p, rfl, q, z, j, rfl⟩ := l0
  refine rn Z 9 Y [] [(27, .bool (decide ((i : Int) < (b0.tasks.length : Int))))] [qb 2 rfl 3, qx h0, qn j0 7, ql j, .o] aD fun B o0 => (aB (aP (o0.at 27) (fun a => ?_) (fun a => ?_)))
  ·refine wp_skip (wp_seq (wp_block (wp_seq (aA (rn Z 7 o0 [] [(35, n0), (36, I (i : Int))] [qb 2 rfl 3, qx h0, qn j0 7] aD fun c p0 => ?_)))))
   have G := dW (xs := b0.tasks) (i := i) aE
   obtain ⟨q0, s0⟩ := G
   have d : i < b0.tasks.length := (gsi_.1 s0).1
   have G := eB j (i := i) s0
   obtain ⟨a, n, p, q, t0, v0, z, B⟩ := G
   have w0 := z
   obtain ⟨x0, rfl, c⟩ := w0
   have x0 : _ = [I q0.state, I q0.need, I q0.try_, I q0.until_] := x0
   subst x0
   refine rn Z 4 p0 [] [(40, .bool (decide (q0.state = 3)))] [qx t0, qn v0 0, .o] aD fun a d => (aB (aP (d.at 40) (fun j => ?_) (fun j => ?_)))
   ·have HH := j
    refine cK 9 [(some 8, none, .of (ι := List Value × List Nat) [49] (fun ⟨a, c⟩ => [.agg a.toArray]) (fun ⟨a, c⟩ => Res.own (α := Run) (.agg a.toArray) (dY b0 (i : Int)) c))] [(true, .is (.agg #[I (eZ (dR y k) k i).now, I (eZ (dR y k) k i).seq, H, J])), (true, .is (I (k : Int))), (true, .is (.pointer (some ⟨A, 0 + 3, none⟩))), (true, .is (J)), (true, .is (I (k : Int))), (true, .is (.pointer (some ⟨f0, g0, none⟩))), (true, .is (.agg #[I b0.id, I b0.plan.prio, I b0.plan.most, I b0.plan.wait, I b0.plan.tasks, m0, I b0.state, n0])), (true, .is (I (i : Int))), (false, .ex (fun (a : List Value) => .agg a.toArray))] mix aD aD aD aD (rs0 := []) rfl Z (Below.refl _ _) ⟨(fun f W hst hbl hd hf => aS (cs := [I (eZ (dR y k) k i).now, I (eZ (dR y k) k i).seq, H, J]) aL rfl ((hf 3 rfl).trans (d.at 3)) (hst.get 2 rfl) rfl rfl brq), (mq_ (d.at 4)), (fq_ dG (d.at 3)), (fun f W hst hbl hd hf => aW fR rfl (hd 2 43 rfl rfl) (hst.get 2 rfl) (i := 3) rfl rfl brq), (mq_ (d.at 4)), (fun f W hst hbl hd hf => aT dS (hd 3 44 rfl rfl) h0 (hd 4 45 rfl rfl) rfl brq), (fun f W hst hbl hd hf => fZ (cs := [I b0.id, I b0.plan.prio, I b0.plan.most, I b0.plan.wait, I b0.plan.tasks, m0, I b0.state, n0]) bP rfl (hd 5 46 rfl rfl) j0 hbl (i := 0) rfl rfl rfl brq), (mq_ (d.at 5)), ?_, trivial⟩ ?_
    ·intro f W ru oth hu hst hbl hd hf
     have t : ru = [] := hu
     subst t
     try simp only [cap_, cL] at hst
     refine (bN func105 rfl (hd 6 47 rfl rfl) (hd 7 48 rfl rfl) ((uL W (aR k0 hbl) (i : Int) aE).mono ?_)); rintro _ n ⟨a, c, rfl, p⟩; refine ⟨_, rfl, ?_⟩
     have q := St.call hst p
     exact ⟨⟨a, rfl⟩, ⟨_, ⟨_, _, rfl, ⟨(a, c), (ce rfl rfl), rfl⟩, rfl⟩, q⟩, (hbl.trans (Below.mono p.below hbl.size))⟩
    intro z B rs_ hAL_ D E G n
    obtain ⟨_, _, rfl, ⟨⟨a, c⟩, K, rfl⟩, t⟩ := hAL_
    have t : _ = [] := t
    subst t
    have L : z 49 = .agg a.toArray := congrArg (fun l => l.getD 0 undef) K
    try simp only [cap_, cL] at D
    have p := D.f2
    have ch_e := pG e0 s0 HH
    have ch_q0 := hRIk.chg hY a0 (dY b0 (i : Int)).id
    obtain ⟨ch_s, ch_n, ch_q⟩ := ch_q0
    have ch_r := c0
    have ch_R := e0.fails s0 HH
    have ch_l2 : (dY b0 (i : Int)).tasks.length ≤ 1000 := by rw [ch_e]; have := ch_R.small; omega
    refine sg (eL func104 rfl (G 0 41 aZ rfl) (G 1 42 aZ rfl) L ((aM8 (y := (eZ (dR y k) k i)) (k := k) (was := b0) (r := dY b0 (i : Int)) p.f2 ch_r ch_s ch_l2 ch_n ch_q).mono ?_)); rintro _ t ⟨a, c, rfl, q⟩; refine ⟨_, rfl, ?_⟩
    refine sgn (aK aD ((n 3 rfl).trans (d.at 3)) rfl (aC rfl (aC rfl (aC (Sl.one (aM (q.f2.get 1 rfl))) (aC (Sl.one (aM (q.f2.get 2 rfl))) bE)))) q.f2 bH rfl ?_); intro t p
    refine aB (aA (rn p 3 (Ag.cons (show z 2 = pt_ g from ((n 2 rfl).trans (d.at 2))) (Ag.cons (show z 3 = pt_ A from ((n 3 rfl).trans (d.at 3))) (Ag.cons (show z 4 = I (k : Int) from ((n 4 rfl).trans (d.at 4))) (Ag.cons (show z 5 = I (i : Int) from ((n 5 rfl).trans (d.at 5))) Ag.nil)))).put [5] [(5, I ((i : Int) + 1))] [qad (i : Int) 1] aD fun t g => (aB ?_)))
    exact ⟨_, R.tasks.length - (i + 1), aE, rfl, i + 1, a, c, aE, rfl, (g.to aD), (by rw [show eZ (dR y k) k (i + 1) = cZ (eZ (dR y k) k i) k b0 (dY b0 (i : Int)) from by rw [ch_e]; exact vF c0 s0 HH]; exact p.f4.f4.f2.f4.f4)⟩
   refine wp_skip (aA (rn Z 3 d [5] [(5, I ((i : Int) + 1))] [qad (i : Int) 1] aD fun t a => (aB ?_)))
   exact ⟨_, R.tasks.length - (i + 1), aE, rfl, i + 1, T, U, aE, rfl, (a.to aD), (by rw [show eZ (dR y k) k (i + 1) = (eZ (dR y k) k i) from vG c0 s0 j]; exact Z)⟩
  refine wp_exit (aA (rn Z 3 o0 [4] [(4, I ((k : Int) + 1))] [qad (k : Int) 1] aD fun t c => (aB ?_)))
  exact ⟨_, y.runs.length - (k + 1), aE, rfl, k + 1, T, U, aE, rfl, (c.to aD), (by rw [← aF2 S (show i = R.tasks.length by omega)]; exact Z)⟩
 refine wp_exit (wp_seq (aA (sg (aS (cs := [I (dR y k).now, I (dR y k).seq, H, J]) aL rfl (P.at 3) (O.get 2 rfl) rfl rfl (sgn (aK aD (P.at 2) rfl (aC rfl (aC rfl (aC (Sl.one (aM (O.f3.get 1 rfl))) (aC (Sl.one (aM (O.f3.get 2 rfl))) bE)))) O.f3 bH rfl ?_)))))); intro t a
 refine aB (wr (eT aL rfl results51 (P.at 2) (a.get 0 rfl) rfl ?_))
 have hke : k = y.runs.length := by omega
 have hfe : dR y k = eU y := by unfold eU; rw [(aX F), hke]; rfl
 have hok_ := (RI.outer hY k hkl).ok hY (by have := hY.runs; omega)
 rw [hfe] at a hok_
 have t := a.f2
 have c := cH (x := (eU y)) t.f2 hok_
 rw [hfe]
 exact ⟨_, _, rfl, c.d1.d1.d1⟩
theorem fresh_runs {y y' : Yard} (h : y'.runs = y.runs) (e : Entry) : fresh y' e = fresh y e := by
 unfold fresh eQ
 rw [h]
theorem aG3 {y : Yard} {e : Entry} (h : fresh y e = true) : ∃ k r t, eQ y e.run = some k ∧ y.runs[k]? = some r ∧ 0 ≤ e.task ∧ r.tasks[e.task.toNat]? = some t ∧ t.state = 2 := by
 unfold fresh at h
 cases s : eQ y e.run with
 | none => rw [s] at h; cases h
 | some k =>
  rw [s] at h
  simp only at h
  cases a : y.runs[k]? with
  | none => rw [a] at h; cases h
  | some r =>
   rw [a] at h
   simp only [Bool.and_eq_true] at h
   obtain ⟨b, c⟩ := h
   cases d : r.tasks[e.task.toNat]? with
   | none => rw [d] at c; cases c
   | some t => rw [d] at c; exact ⟨k, r, t, rfl, a, (inB_iff'.1 b).1, d, by simpa using c⟩
def jI (y : Yard) (s : Nat) (l : List Entry) : Yard := ⟨y.now, y.seq, y.shelf.set s l, y.runs⟩
def bW (y : Yard) (s : Int) : Yard := if inB s 0 ((y.shelf.length : Int) - 1) then jI y s.toNat ((y.shelf.getD s.toNat []).filter (fresh y)) else y
def jA (xs : List Entry) : Nat := (xs.length + 1) / 2
def fQ (a b : List Entry) : List Entry := if 80 < a.length + b.length then a else b.foldl kN a
theorem nI (b : List Entry) : ∀ a : List Entry, (b.foldl kN a).length = a.length + b.length := by
 induction b with
 | nil => intro a; rfl
 | cons e b ih => intro a; rw [foldl_cons, ih, aF4, length_cons]; omega
theorem sZ {a b : List Entry} {k : Nat} (h : k < b.length) : (b.take (k + 1)).foldl kN a = kN ((b.take k).foldl kN a) b[k] := by
 rw [take_succ_eq_append_getElem h, foldl_append]; rfl
theorem merged_len {a b : List Entry} (h : a.length ≤ 80) : (fQ a b).length ≤ 80 := by
 unfold fQ
 split
 ·exact h
 rw [nI]; omega
theorem putE_mem {xs : List Entry} {e x : Entry} (h : x ∈ kN xs e) : x ∈ xs ∨ x = e := by
 unfold kN at h
 rw [mem_append, mem_cons] at h
 rcases h with h | h | h
 ·exact .inl (mem_of_mem_take h)
 ·exact .inr h
 exact .inl (mem_of_mem_drop h)
theorem foldl_put_mem (b : List Entry) : ∀ {a : List Entry} {x : Entry}, x ∈ b.foldl kN a → x ∈ a ∨ x ∈ b := by
 induction b with
 | nil => intro a x h; exact .inl h
 | cons e b ih =>
  intro a x h
  rcases ih h with h | h
  ·rcases putE_mem h with h | h
   ·exact .inl h
   exact .inr (by simp [h])
  exact .inr (by simp [h])
theorem merged_mem {a b : List Entry} {x : Entry} (h : x ∈ fQ a b) : x ∈ a ∨ x ∈ b := by
 unfold fQ at h
 split at h
 ·exact .inl h
 exact foldl_put_mem b h
def nW (home draw : Int) (i : Nat) : Int := (home + 1 + (max draw 0 % 3 + (i : Int)) % 3) % 4
def cT (home draw : Int) : List Int := [nW home draw 0, nW home draw 1, nW home draw 2]
theorem victim_rng (home draw : Int) (i : Nat) (hh : 0 ≤ home ∧ home ≤ 3) : 0 ≤ nW home draw i ∧ nW home draw i ≤ 3 ∧ nW home draw i ≠ home := by unfold nW; omega
theorem oZ {home draw : Int} (hh : 0 ≤ home ∧ home ≤ 3) : ∀ o ∈ cT home draw, 0 ≤ o ∧ o ≤ 3 ∧ o ≠ home := by
 intro o ho
 simp only [cT, mem_cons, not_mem_nil, or_false] at ho
 rcases ho with rfl | rfl | rfl <;> exact victim_rng _ _ _ hh
def aF1 (y : Yard) (home o : Nat) : Yard := jI (jI y home (fQ (y.shelf.getD home []) ((y.shelf.getD o []).take (jA (y.shelf.getD o []))))) o ((y.shelf.getD o []).drop (jA (y.shelf.getD o [])))
theorem robY_comm {y : Yard} {home o : Nat} (h : home ≠ o) : aF1 y home o = jI (jI y o ((y.shelf.getD o []).drop (jA (y.shelf.getD o [])))) home (fQ (y.shelf.getD home []) ((y.shelf.getD o []).take (jA (y.shelf.getD o [])))) := by
 unfold aF1 jI
 simp only [Yard.mk.injEq, true_and, and_true]
 rw [set_comm _ _ h]
def uS (home : Nat) (y : Yard) (o : Int) : Yard := if y.shelf.getD home [] = [] then aF1 (bW y o) home o.toNat else y
def fJ (home : Nat) (y : Yard) (l : List Int) : Yard := l.foldl (uS home) y
theorem yV {home : Nat} {y : Yard} {l : List Int} {k : Nat} {o : Int} (h : l[k]? = some o) (he : (fJ home y (l.take k)).shelf.getD home [] = []) : fJ home y (l.take (k + 1)) = aF1 (bW (fJ home y (l.take k)) o) home o.toNat := by
 obtain ⟨hj, rfl⟩ := gsi_.1 h
 rw [take_succ_eq_append_getElem hj]
 unfold fJ at he ⊢
 rw [foldl_append, foldl_cons, foldl_nil]
 have hz : ∀ (z : Yard) (o : Int), z.shelf.getD home [] = [] → uS home z o = aF1 (bW z o) home o.toNat := fun z o h => by unfold uS; rw [if_pos h]
 exact hz _ _ he
theorem uR {home : Nat} {y : Yard} : ∀ {l : List Int}, ¬ y.shelf.getD home [] = [] → fJ home y l = y
 | [], _ => rfl
 | o :: l, h => by
  show fJ home (uS home y o) l = y
  have : uS home y o = y := by unfold uS; rw [if_neg h]
  rw [this]; exact uR h
theorem wP {home : Nat} {y : Yard} {l : List Int} {k : Nat} (h : ¬ (fJ home y (l.take k)).shelf.getD home [] = []) : fJ home y l = fJ home y (l.take k) := by
 have e : fJ home y l = fJ home (fJ home y (l.take k)) (l.drop k) := by
  unfold fJ
  rw [← foldl_append, take_append_drop]
 rw [e]; exact uR h
theorem wQ {home : Nat} {y : Yard} {l : List Int} {k : Nat} (h : k = l.length) : fJ home y (l.take k) = fJ home y l := by rw [h, take_length]
structure PI (y out : Yard) (home : Nat) : Prop where
 now : out.now = y.now
 seq : out.seq = y.seq
 runs : out.runs = y.runs
 len : out.shelf.length = 4
 each : ∀ s, s < 4 → (out.shelf.getD s []).length ≤ 80
 fresh : ∀ e ∈ out.shelf.getD home [], fresh y e = true
theorem kU {xss : List (List Entry)} {s : Nat} (h : s < xss.length) (l : List Entry) : (xss.set s l).getD s [] = l := by rw [getD_eq_getElem?_getD, getElem?_set_self h]; rfl
theorem pP {xss : List (List Entry)} {s j : Nat} (h : s ≠ j) (l : List Entry) : (xss.set s l).getD j [] = xss.getD j [] := by rw [getD_eq_getElem?_getD, getElem?_set_ne h, getD_eq_getElem?_getD]
theorem tR {y : Yard} {s : Int} (h : 0 ≤ s ∧ s ≤ 3) (h4 : y.shelf.length = 4) : bW y s = jI y s.toNat ((y.shelf.getD s.toNat []).filter (Go.Proofs.YtchnllpegfbleaaGreat.fresh y)) := by
 unfold bW
 rw [if_pos (inB_iff'.2 aE)]
theorem kV {y : Yard} (h : YardIs y) : ∀ s, s < 4 → (y.shelf.getD s []).length ≤ 80 := by
 intro s hs
 have hl := h.shelf
 rw [getD_eq_getElem?_getD, getElem?_eq_getElem aE]
 have := kZ (h.each y.shelf[s] (getElem_mem _))
 simpa using this
theorem mK {xss : List (List Entry)} {n s : Nat} {l : List Entry} (h : ∀ j, j < 4 → (xss.getD j []).length ≤ n) (hl : l.length ≤ n) (h4 : xss.length = 4) : ∀ j, j < 4 → ((xss.set s l).getD j []).length ≤ n := by
 intro j hj
 by_cases e : s = j
 ·subst e; rw [kU aE]; exact hl
 rw [pP e]; exact h j hj
theorem PI.start {y : Yard} (h : YardIs y) {home : Nat} (hh : home < 4) : PI y (bW y (home : Int)) home := by
 have s := h.shelf
 rw [tR aE s]
 simp only [Int.toNat_natCast]
 refine ⟨rfl, rfl, rfl, by show (y.shelf.set _ _).length = 4; rw [length_set]; exact s, ?_, ?_⟩
 ·exact mK (kV h) (Nat.le_trans (length_filter_le _ _) (kV h home hh)) s
 intro e he
 have : e ∈ (y.shelf.set home ((y.shelf.getD home []).filter (Go.Proofs.YtchnllpegfbleaaGreat.fresh y))).getD home [] := he
 rw [kU aE] at this
 exact (mem_filter.1 this).2
theorem PI.rob {y out : Yard} {home : Nat} (h : PI y out home) (hh : home < 4) {o : Int} (ho : 0 ≤ o ∧ o ≤ 3 ∧ o ≠ (home : Int)) : PI y (aF1 (bW out o) home o.toNat) home := by
 have s := h.len
 have t : (out.shelf.set o.toNat ((out.shelf.getD o.toNat []).filter (Go.Proofs.YtchnllpegfbleaaGreat.fresh out))).length = 4 := by rw [length_set]; exact s
 have a : (out.shelf.set o.toNat ((out.shelf.getD o.toNat []).filter (Go.Proofs.YtchnllpegfbleaaGreat.fresh out))).getD o.toNat [] = (out.shelf.getD o.toNat []).filter (Go.Proofs.YtchnllpegfbleaaGreat.fresh out) := kU aE _
 have b : (out.shelf.set o.toNat ((out.shelf.getD o.toNat []).filter (Go.Proofs.YtchnllpegfbleaaGreat.fresh out))).getD home [] = out.shelf.getD home [] := pP aE _
 have hfl : ((out.shelf.getD o.toNat []).filter (Go.Proofs.YtchnllpegfbleaaGreat.fresh out)).length ≤ 80 := Nat.le_trans (length_filter_le _ _) (h.each _ aE)
 rw [tR aE s]
 refine ⟨h.now, h.seq, h.runs, ?_, ?_, ?_⟩
 ·unfold aF1 jI
  simp only [length_set]
  exact s
 ·refine mK (mK (mK h.each hfl s) ?_ t) ?_ (by unfold jI; simp only [length_set]; exact s)
  ·exact merged_len (by show ((List.set _ _ _).getD home []).length ≤ 80; rw [b]; exact h.each _ hh)
  show (List.drop _ ((List.set _ _ _).getD _ [])).length ≤ 80
  rw [a, length_drop]; omega
 intro e he
 have he' : e ∈ (((out.shelf.set o.toNat ((out.shelf.getD o.toNat []).filter (Go.Proofs.YtchnllpegfbleaaGreat.fresh out))).set home (fQ ((out.shelf.set o.toNat ((out.shelf.getD o.toNat []).filter (Go.Proofs.YtchnllpegfbleaaGreat.fresh out))).getD home []) (((out.shelf.set o.toNat ((out.shelf.getD o.toNat []).filter (Go.Proofs.YtchnllpegfbleaaGreat.fresh out))).getD o.toNat []).take (jA ((out.shelf.set o.toNat ((out.shelf.getD o.toNat []).filter (Go.Proofs.YtchnllpegfbleaaGreat.fresh out))).getD o.toNat []))))).set o.toNat _).getD home [] := he
 rw [pP aE, kU aE, a, b] at he'
 rcases merged_mem he' with s | s
 ·exact h.fresh e s
 have := (mem_filter.1 (mem_of_mem_take s)).2
 rwa [fresh_runs h.runs] at this
theorem PI.all {y : Yard} (h : YardIs y) {home : Nat} (hh : home < 4) {l : List Int} (hl : ∀ o ∈ l, 0 ≤ o ∧ o ≤ 3 ∧ o ≠ (home : Int)) : ∀ {out : Yard}, PI y out home → PI y (fJ home out l) home := by
 induction l with
 | nil => intro out ho; exact ho
 | cons o l ih =>
  intro out ho
  refine ih (fun a ha => hl a (by simp [ha])) (out := uS home out o) ?_
  unfold uS
  split
  ·exact ho.rob hh (hl o (by simp))
  exact ho
theorem PI.take {y : Yard} (h : YardIs y) {home : Nat} (hh : home < 4) {l : List Int} (hl : ∀ o ∈ l, 0 ≤ o ∧ o ≤ 3 ∧ o ≠ (home : Int)) (k : Nat) : PI y (fJ home (bW y (home : Int)) (l.take k)) home := PI.all h hh (fun o ho => hl o (mem_of_mem_take ho)) (PI.start h hh)
def iX (r : Run) (i : Nat) (t : Task) (now : Int) : Run := ⟨r.id, r.plan, r.state, r.tasks.set i ⟨3, t.need, t.try_ + 1, now + r.plan.wait⟩⟩
def rQ (out : Yard) (home : Nat) : Yard × Reply := match out.shelf.getD home [] with
 | [] => (out, ⟨9, 0, 0, 0⟩)
 | e :: rest => match eQ out e.run with
  | none => (out, ⟨9, 0, 0, 0⟩)
  | some k => match out.runs[k]? with
   | none => (out, ⟨9, 0, 0, 0⟩)
   | some r => match r.tasks[e.task.toNat]? with
    | none => (out, ⟨9, 0, 0, 0⟩)
    | some t => (⟨out.now, out.seq, out.shelf.set home rest, out.runs.set k (iX r e.task.toNat t out.now)⟩, ⟨0, e.run, e.task, t.try_ + 1⟩)
noncomputable def eW (y : Yard) (worker draw : Int) : Yard × Reply :=
 if ¬ dB y = true then (y, ⟨8, 0, 0, 0⟩) else if ¬ inB worker 0 99 = true then (y, ⟨5, 0, 0, 0⟩)
 else rQ (fJ (worker % 4).toNat (bW y (worker % 4)) (cT (worker % 4) draw)) (worker % 4).toNat
theorem xJ {out : Yard} {home : Nat} (h : out.shelf.getD home [] = []) : rQ out home = (out, ⟨9, 0, 0, 0⟩) := by unfold rQ; rw [h]
theorem zF {out : Yard} {home k : Nat} {e : Entry} {rest : List Entry} {r : Run} {t : Task} (h : out.shelf.getD home [] = e :: rest) (hk : eQ out e.run = some k) (hr : out.runs[k]? = some r) (ht : r.tasks[e.task.toNat]? = some t) : rQ out home = (⟨out.now, out.seq, out.shelf.set home rest, out.runs.set k (iX r e.task.toNat t out.now)⟩, ⟨0, e.run, e.task, t.try_ + 1⟩) := by
 unfold rQ
 rw [h]; simp only [hk, hr, ht]
theorem zRun_C (W : World) : Shape.C W [I 0, I 0, I 0, I 0, I 0, .slice none 0 0, I 0, .slice none 0 0] qW [] := by
 refine ⟨_, _, _, _, rfl, ?_, nil_Sl, nil_Sl, rfl⟩
 simp [qW, Run.ok, Plan.ok, I64]
noncomputable def vZ (y : Yard) (id : Int) (p : Plan) : Yard := ⟨y.now, y.seq + ((bI (dZ id p).tasks 2).length : Int), dV (bL id).toNat p.prio id (bI (dZ id p).tasks 2) y.shelf y.seq, y.runs ++ [dZ id p]⟩
noncomputable def bV (y : Yard) (id : Int) (p : Plan) : Yard × Int :=
 if dB y = false then (y, 8) else if inB id 1 9999 = false then (y, 5) else if 0 ≤ bJ y id then (y, 6) else if bM p ≠ 0 then (y, bM p) else if mG y p = false then (y, 7) else (vZ y id p, 0)


theorem RunNewIt (id : Int) {p : Plan} (hc : Shape.C w cs p fp) (h : iM id p = true) (hw : p.wt ≤ 1048576) :
  Calls prog 204 #[I id, .agg cs.toArray] w fun e w' => ∃ (cs' : List Value) (fp' : List Nat), e = .returned (.tuple #[.agg cs'.toArray, .bool true]) ∧ St w w' [Res.own (.agg cs'.toArray) (dZ id p) fp'] := by
 have := RunNewI w id hc (by unfold iM at h; rw [Bool.and_eq_true] at h; have := inB_iff'.1 h.1; unfold I64; omega) hw
 rw [h, aB9 h] at this; exact this
theorem RunNewSt (id : Int) {p : Plan} (hc : Shape.C w cs p fp) (h : iM id p = true) (hw : p.wt ≤ 1048576) :
  Calls prog 197 #[I id, .agg cs.toArray] w fun e w' => ∃ (cs' : List Value) (fp' : List Nat), e = .returned (.tuple #[.agg cs'.toArray, .bool true]) ∧ St w w' [Res.own (.agg cs'.toArray) (dZ id p) fp'] := by
 have := RunNewS w id hc (by unfold iM at h; rw [Bool.and_eq_true] at h; have := inB_iff'.1 h.1; unfold I64; omega) hw
 rw [h, aB9 h] at this; exact this
theorem xL (r : Run) : kF qW r = bI r.tasks 2 := by
 unfold kF; rw [filter_eq_self]; intro a _; simp [qW, bI, iG]

theorem SubmitI {y : Yard} (hc : Shape.C w cs y fp) (id : Int) {p : Plan} (hd : Shape.C w ds p gp) (hw : y.wt ≤ 1048576) (hpw : p.wt ≤ 1048576) :
  Calls prog 146 #[.agg cs.toArray, I id, .agg ds.toArray] w fun e w' => ∃ (cs' : List Value) (fp' : List Nat), e = .returned (.tuple #[.agg cs'.toArray, I (bV y id p).2]) ∧ St w w' [Res.own (.agg cs'.toArray) (bV y id p).1 fp'] := by
 have hpok : p.ok := by obtain ⟨t, a, rfl, hok, c, rfl⟩ := hd; exact hok
 have hyok : y.ok := by obtain ⟨t, d, a, g, rfl, hok, c, j, rfl⟩ := hc; exact hok
 refine iS func146 rfl ntmps146 aZ (wp_seq (aA (sg (aI (cs := cs) rfl (St.start w) ?_)))); intro n q z A
 refine sg (aI (cs := ds) rfl A ?_); intro t a d g
 refine sg (aQ cI g ?_); intro c j B D
 refine sg (aG (aB (wp_seq (aA (sg (aV aL rfl rfl (D.get 2 rfl) (Shape.len hc) (sg (bC func108 rfl rfl ((yI j (aR hc D.below) aE).mono ?_))))))))); rintro _ a ⟨E, d, g, q, rfl, z⟩; refine ⟨_, rfl, ?_⟩
 have A := St.call D z
 refine sg (aQ cI A ?_); intro B F G H
 refine sgn (aK aD rfl rfl (aC rfl (aC rfl (aC (Sl.one (aM (H.get 1 rfl))) (aC (Sl.one (bX (H.get 2 rfl))) bE)))) H bH rfl ?_); intro a j
 refine aB (wp_seq (wp_block (wp_seq (aA (rc j 4 Ag.nil.put.put.put.put.put.put.put.put.put.put [] [(13, .bool (!(dB y)))] [qw 5 rfl (Shape.len hc), qc func46 rfl (fun W s b => nE W (aR hc s.below) aE), .o] aD fun z A D F G => (aB (bZ (D.at 13) (fun J => ?_) (fun J => ?_))))))))
 ·refine wp_seq (aA (sg (aS (cs := [I y.now, I y.seq, E, d]) aL rfl (D.at 8) (F.get 0 rfl) rfl rfl (sgn (aK aD (D.at 6) rfl (aC rfl (aC rfl (aC (Sl.one (aM (F.f3.get 2 rfl))) (aC (Sl.one (bX (F.f3.get 3 rfl))) bE)))) F.f3 bH rfl ?_))))); intro a j
  refine sg (aG (aB (wr (eH aL rfl results146 (D.at 6) (j.get 0 rfl) rfl rfl ?_))))
  have hfe : bV y id p = (y, 8) := by unfold bV; rw [if_pos (aY J)]
  have K := j.f3.shut
  obtain ⟨z, A⟩ := K
  have a := cH (x := y) A.f3 (by assumption)
  rw [hfe]
  exact ⟨_, _, rfl, a.only 0 rfl⟩
 refine wp_seq (aA (rc F 4 D [] [(18, .bool (!(inB id 1 9999)))] [qc func47 rfl (fun W s b => cF W id 1 9999), .o] aD fun j G z H L => (aB (bZ (z.at 18) (fun M => ?_) (fun M => ?_)))))
 ·have A := cU (aY M)
  refine wp_seq (aA (sg (aS (cs := [I y.now, I y.seq, E, d]) aL rfl (z.at 8) (H.get 0 rfl) rfl rfl (sgn (aK aD (z.at 6) rfl (aC rfl (aC rfl (aC (Sl.one (aM (H.f3.get 2 rfl))) (aC (Sl.one (bX (H.f3.get 3 rfl))) bE)))) H.f3 bH rfl ?_))))); intro a j
  refine sg (aG (aB (wr (eH aL rfl results146 (z.at 6) (j.get 0 rfl) rfl rfl ?_))))
  have hfe : bV y id p = (y, 5) := by unfold bV; rw [if_neg (by rw [(aX J)]; decide), if_pos (aY M)]
  have K := j.f3.shut
  obtain ⟨a, D⟩ := K
  have F := cH (x := y) D.f3 (by assumption)
  rw [hfe]
  exact ⟨_, _, rfl, F.only 0 rfl⟩
 have A := inB_iff'.1 (aX M)
 refine wp_seq (aA (rc H 5 z [] [(23, .bool (decide (0 ≤ (bJ y id))))] [qw 5 rfl (Shape.len hc), qc func98 rfl (fun W s b => pV W (aR hc s.below) id aE), .o] aD fun a j D G F => (aB (aP (D.at 23) (fun A => ?_) (fun A => ?_)))))
 ·have N := decide_eq_true A
  refine wp_seq (aA (sg (aS (cs := [I y.now, I y.seq, E, d]) aL rfl (D.at 8) (G.get 0 rfl) rfl rfl (sgn (aK aD (D.at 6) rfl (aC rfl (aC rfl (aC (Sl.one (aM (G.f3.get 2 rfl))) (aC (Sl.one (bX (G.f3.get 3 rfl))) bE)))) G.f3 bH rfl ?_))))); intro a j
  refine sg (aG (aB (wr (eH aL rfl results146 (D.at 6) (j.get 0 rfl) rfl rfl ?_))))
  have hfe : bV y id p = (y, 6) := by unfold bV; rw [if_neg (by rw [(aX J)]; decide), if_neg (by rw [(aX M)]; decide), if_pos (of_decide_eq_true N)]
  have K := j.f3.shut
  obtain ⟨a, z⟩ := K
  have F := cH (x := y) z.f3 (by assumption)
  rw [hfe]
  exact ⟨_, _, rfl, F.only 0 rfl⟩
 have N := decide_eq_false A
 refine wp_seq (aA (lw D [(1, I id), (3, pt_ n), (5, pt_ t), (6, pt_ c), (8, pt_ B)] aD fun a => (rc G 4 a [] [(29, .bool (!decide ((bM p) = 0)))] [qw 4 rfl (Shape.len hd), qc func160 rfl (fun W s b => kR W (aR hd s.below)), .o] aD fun j z A D F => (aB (cQ (A.at 29) (fun H => ?_) (fun H => ?_))))))
 ·have O := gL H
  refine wp_seq (rk 3 D A [] [(33, .agg #[I y.now, I y.seq, E, d]), (35, I (bM p))] [qb 0 rfl 0, qw 4 rfl (Shape.len hd), qc func160 rfl (fun W s b => kR W (aR hd s.below))] aD aD fun a j z F G => (sgn (aK aD (z.at 6) (z.at 33) (aC rfl (aC rfl (aC (Sl.one (aM (F.f3.get 2 rfl))) (aC (Sl.one (bX (F.f3.get 3 rfl))) bE)))) F.f3 bH rfl ?_))); intro a j
  refine sg (aF (z.at 35) (aB (wr (eH aL rfl results146 (z.at 6) (j.get 0 rfl) rfl rfl ?_))))
  have hfe : bV y id p = (y, bM p) := by unfold bV; rw [if_neg (by rw [(aX J)]; decide), if_neg (by rw [(aX M)]; decide), if_neg (of_decide_eq_false N), if_pos (of_decide_eq_false (aY O))]
  have K := j.f3.shut
  obtain ⟨a, z⟩ := K
  have F := cH (x := y) z.f3 (by assumption)
  rw [hfe]
  exact ⟨_, _, rfl, F.only 0 rfl⟩
 have O := gM H
 refine wp_seq (aA (rc D 5 A [] [(36, .bool (!(mG y p)))] [qw 5 rfl (Shape.len hc), qw 4 rfl (Shape.len hd), qc func203 rfl (fun W s b => RoomForI W (aR hc s.below) (aR hd s.below) aE), .o] aD fun a j z F G => (aB (bZ (z.at 36) (fun P => ?_) (fun P => ?_)))))
 ·refine wp_seq (aA (sg (aS (cs := [I y.now, I y.seq, E, d]) aL rfl (z.at 8) (F.get 0 rfl) rfl rfl (sgn (aK aD (z.at 6) rfl (aC rfl (aC rfl (aC (Sl.one (aM (F.f3.get 2 rfl))) (aC (Sl.one (bX (F.f3.get 3 rfl))) bE)))) F.f3 bH rfl ?_))))); intro a A
  refine sg (aG (aB (wr (eH aL rfl results146 (z.at 6) (A.get 0 rfl) rfl rfl ?_))))
  have hfe : bV y id p = (y, 7) := by unfold bV; rw [if_neg (by rw [(aX J)]; decide), if_neg (by rw [(aX M)]; decide), if_neg (of_decide_eq_false N), if_neg (fun hz => hz (of_decide_eq_true (aX O))), if_pos (aY P)]
  have K := A.f3.shut
  obtain ⟨a, D⟩ := K
  have G := cH (x := y) D.f3 (by assumption)
  rw [hfe]
  exact ⟨_, _, rfl, G.only 0 rfl⟩
 refine wp_skip (wp_seq ?_)
 have hY := iE (aX J)
 have hidr := inB_iff'.1 (aX M)
 have hpf : bM p = 0 := by simpa using (aX O)
 have hplr := nL hpf
 have hN : iM id p = true := by unfold iM; simp [(aX M), hpf]
 have hroom : mG y p = true := (aX P)
 have hrq : y.seq ≤ 999999000 - p.tasks ∧ y.runs.length < 8 := by unfold mG at hroom; simp at hroom; omega
 have hss : 4 ≤ y.shelf.length := by have := hY.shelf; omega
 have hsq : 0 ≤ y.seq ∧ y.seq ≤ 4000000000 := by have := hY.seq; omega
 have htl : (dZ id p).tasks.length = p.tasks.toNat := eX p _
 have htk : (bI (dZ id p).tasks 2).length ≤ (dZ id p).tasks.length := iV _ _ _
 have hpr : I64 (dZ id p).plan.prio := hpok.1
 have hri : I64 (dZ id p).id := by show I64 id; unfold I64; omega
 have hnow := hY.now
 have hsh := iA id
 have hln : (y.shelf.getD (bL (dZ id p).id).toNat []).length ≤ 80 := Nat.le_trans (kV hY _ (by have : bL (dZ id p).id = bL id := rfl; omega)) aZ
 refine aA (sg (aH (z.at 1) (sg (aV gU rfl (z.at 5) (F.get 4 rfl) (Shape.len hd) (sg (bN func204 rfl rfl rfl ((RunNewIt j id (aR hd F.below) hN aE).mono ?_))))))); rintro _ a ⟨A, D, rfl, G⟩; refine ⟨_, rfl, ?_⟩
 have H := St.call F G
 refine rn H 3 z.put.put.put [] [(46, .agg A.toArray), (47, .bool true)] [] aD fun L R => (sg (aQ fN H ?_)); intro S j T U
 refine sgn (aJ (cs := A) bP (bB (U.get 1 rfl) rfl) rfl (R.at 46) U rfl ?_); intro a X
 refine sg (aF (R.at 47) (aB (wp_seq (aA (rn X 3 R.put.put [] [(49, d), (50, .agg A.toArray)] [qb 2 rfl 3, qw 0 rfl (Shape.len (bB (X.get 1 rfl) rfl))] aD fun j Y => (sg (aU (cs := A) (e := 123) (bR (Y.at 50) dJ) (bG iK _ _ rfl (Shape.len (bB (X.get 1 rfl) rfl)) aZ) X ?_))))))); intro a z d F
 have G := F.f2.cs rfl
 refine sg (oT iK (Y.at 49) rfl G.f1.f5 (by unfold maxLen; omega) aE ?_); intro Z j H
 refine sg (aN dG (Y.at 8) (sgn (aO (v := Z) aD rfl rfl (Sl.cells (bX (H.f2.get 1 rfl).1)) (Sl.one (bX (H.f2.get 1 rfl).1)) H.f2 bH rfl ?_))); intro a d
 refine aB (wp_seq ?_)
 have j := (d.get 1 rfl).2
 refine cK 3 [(some 2, none, .of (ι := Value × List Nat) [56] (fun ⟨a, z⟩ => [a]) (fun ⟨a, z⟩ => Res.own (α := List Int) a (bI (dZ id p).tasks 2) z))] [(true, .is (.agg A.toArray)), (true, .is (.agg A.toArray)), (false, .ex (fun (a : Value) => a))] mix aD aD aD aD (rs0 := []) rfl d (Below.refl _ _) ⟨(fun f W hst hbl hd hf => aV bP rfl ((hf 9 rfl).trans (Y.at 9)) (hst.get 2 rfl) (Shape.len j) brq), (fun f W hst hbl hd hf => aV bP rfl ((hf 9 rfl).trans (Y.at 9)) (hst.get 2 rfl) (Shape.len j) brq), ?_, trivial⟩ ?_
 ·intro f W ru oth hu hst hbl hd hf
  have t : ru = [] := hu
  subst t
  try simp only [cap_, cL] at hst
  refine (bN func162 rfl (hd 1 55 rfl rfl) rfl ((mP W (aR j hbl) 2 aE).mono ?_)); rintro _ c ⟨a, z, rfl, d⟩; refine ⟨_, rfl, ?_⟩
  have g := St.call hst d
  exact ⟨⟨a, rfl⟩, ⟨_, ⟨_, _, rfl, ⟨(a, z), (ce rfl rfl), rfl⟩, rfl⟩, g⟩, (hbl.trans (Below.mono d.below hbl.size))⟩
 intro n q rs_ hAL_ a0 A b0 c0
 obtain ⟨_, _, rfl, ⟨⟨a, z⟩, c, rfl⟩, t⟩ := hAL_
 have t : _ = [] := t
 subst t
 have e0 : n 56 = a := congrArg (fun l => l.getD 0 undef) c
 try simp only [cap_, cL] at a0
 have f0 := j
 obtain ⟨d, g, q, A, rfl, B, D, F, rfl⟩ := f0
 have z := a0.f4
 refine sg (eL func176 rfl ((c0 8 rfl).trans (Y.at 8)) (b0 0 54 aZ rfl) e0 ((aP6 z.f2 (fun W_ h_ => aM (h_.get 0 rfl))  hss aE hsq hpr hri).mono ?_)); rintro _ t ⟨a, rfl, c⟩; refine ⟨_, rfl, ?_⟩
 refine aB (wp_seq (aA (sg (aS (cs := [I y.now, I (y.seq + ((bI (dZ id p).tasks 2).length : Int)), E, Z]) aL rfl ((c0 8 rfl).trans (Y.at 8)) (c.get 0 rfl) rfl rfl (sgn (aK aD ((c0 6 rfl).trans (Y.at 6)) rfl (aC rfl (aC rfl (aC (Sl.one (aM (c.f5.get 2 rfl))) (aC (Sl.one (bX (c.f5.get 4 rfl).1)) bE)))) c.f5 bH rfl ?_)))))); intro t a
 refine sg (aG (aB (wr (eH aL rfl results146 ((c0 6 rfl).trans (Y.at 6)) (a.get 0 rfl) rfl rfl ?_))))
 have hfe : bV y id p = (vZ y id p, 0) := by unfold bV; rw [if_neg (by rw [(aX J)]; decide), if_neg (by rw [(aX M)]; decide), if_neg (of_decide_eq_false N), if_neg (fun hz => hz (of_decide_eq_true (aX O))), if_neg (by rw [(aX P)]; decide)]
 have t := a.f4.zrow
 have K := t.shut
 obtain ⟨c, d⟩ := K
 have g := cH (x := vZ y id p) d.f3 (show I64 _ ∧ I64 _ from by simp only [vZ, I64]; omega)
 rw [hfe]
 exact ⟨_, _, rfl, g.only 0 rfl⟩
theorem SubmitS {y : Yard} (hc : Shape.C w cs y fp) (id : Int) {p : Plan} (hd : Shape.C w ds p gp) (hw : y.wt ≤ 1048576) (hpw : p.wt ≤ 1048576) :
  Calls prog 138 #[.agg cs.toArray, I id, .agg ds.toArray] w fun e w' => ∃ (cs' : List Value) (fp' : List Nat), e = .returned (.tuple #[.agg cs'.toArray, I (bV y id p).2]) ∧ St w w' [Res.own (.agg cs'.toArray) (bV y id p).1 fp'] := by
 have hpok : p.ok := by obtain ⟨t, a, rfl, hok, c, rfl⟩ := hd; exact hok
 have hyok : y.ok := by obtain ⟨t, d, a, g, rfl, hok, c, j, rfl⟩ := hc; exact hok
 refine iS func138 rfl ntmps138 aZ (wp_seq (aA (sg (aI (cs := cs) rfl (St.start w) ?_)))); intro n q z A
 refine sg (aI (cs := ds) rfl A ?_); intro t a d g
 refine sg (aQ cI g ?_); intro c j B D
 refine sg (aG (aB (wp_seq (aA (sg (aV aL rfl rfl (D.get 2 rfl) (Shape.len hc) (sg (bC func71 rfl rfl ((yH j (aR hc D.below) aE).mono ?_))))))))); rintro _ a ⟨d, g, q, z, rfl, A⟩; refine ⟨_, rfl, ?_⟩
 have B := St.call D A
 refine sg (aQ cI B ?_); intro E F G H
 refine sgn (aK aD rfl rfl (aC rfl (aC rfl (aC (Sl.one (aM (H.get 1 rfl))) (aC (Sl.one (bX (H.get 2 rfl))) bE)))) H bH rfl ?_); intro a j
 refine aB (wp_seq (wp_block (wp_seq (aA (rc j 4 Ag.nil.put.put.put.put.put.put.put.put.put.put [] [(13, .bool (!(dB y)))] [qw 5 rfl (Shape.len hc), qc func42 rfl (fun W s b => nD W (aR hc s.below) aE), .o] aD fun q z A B D => (aB (bZ (A.at 13) (fun a => ?_) (fun a => ?_))))))))
 ·refine wp_seq (aA (sg (aS (cs := [I y.now, I y.seq, d, g]) aL rfl (A.at 8) (B.get 0 rfl) rfl rfl (sgn (aK aD (A.at 6) rfl (aC rfl (aC rfl (aC (Sl.one (aM (B.f3.get 2 rfl))) (aC (Sl.one (bX (B.f3.get 3 rfl))) bE)))) B.f3 bH rfl ?_))))); intro j q
  refine sg (aG (aB (wr (eH aL rfl results138 (A.at 6) (q.get 0 rfl) rfl rfl ?_))))
  have hfe : bV y id p = (y, 8) := by unfold bV; rw [if_pos (aY a)]
  have z := q.f3.shut
  obtain ⟨D, F⟩ := z
  have j := cH (x := y) F.f3 (by assumption)
  rw [hfe]
  exact ⟨_, _, rfl, j.only 0 rfl⟩
 refine wp_seq (aA (rc B 4 A [] [(18, .bool (!(inB id 1 9999)))] [qc func43 rfl (fun W s b => cR W id 1 9999), .o] aD fun q G D H J => (aB (bZ (D.at 18) (fun K => ?_) (fun K => ?_)))))
 ·have F := cU (aY K)
  refine wp_seq (aA (sg (aS (cs := [I y.now, I y.seq, d, g]) aL rfl (D.at 8) (H.get 0 rfl) rfl rfl (sgn (aK aD (D.at 6) rfl (aC rfl (aC rfl (aC (Sl.one (aM (H.f3.get 2 rfl))) (aC (Sl.one (bX (H.f3.get 3 rfl))) bE)))) H.f3 bH rfl ?_))))); intro j q
  refine sg (aG (aB (wr (eH aL rfl results138 (D.at 6) (q.get 0 rfl) rfl rfl ?_))))
  have hfe : bV y id p = (y, 5) := by unfold bV; rw [if_neg (by rw [(aX a)]; decide), if_pos (aY K)]
  have z := q.f3.shut
  obtain ⟨j, A⟩ := z
  have B := cH (x := y) A.f3 (by assumption)
  rw [hfe]
  exact ⟨_, _, rfl, B.only 0 rfl⟩
 have F := inB_iff'.1 (aX K)
 refine wp_seq (aA (rc H 5 D [] [(23, .bool (decide (0 ≤ (bJ y id))))] [qw 5 rfl (Shape.len hc), qc func90 rfl (fun W s b => rT W (aR hc s.below) id aE), .o] aD fun j q A G B => (aB (aP (A.at 23) (fun F => ?_) (fun F => ?_)))))
 ·have H := decide_eq_true F
  refine wp_seq (aA (sg (aS (cs := [I y.now, I y.seq, d, g]) aL rfl (A.at 8) (G.get 0 rfl) rfl rfl (sgn (aK aD (A.at 6) rfl (aC rfl (aC rfl (aC (Sl.one (aM (G.f3.get 2 rfl))) (aC (Sl.one (bX (G.f3.get 3 rfl))) bE)))) G.f3 bH rfl ?_))))); intro j q
  refine sg (aG (aB (wr (eH aL rfl results138 (A.at 6) (q.get 0 rfl) rfl rfl ?_))))
  have hfe : bV y id p = (y, 6) := by unfold bV; rw [if_neg (by rw [(aX a)]; decide), if_neg (by rw [(aX K)]; decide), if_pos (of_decide_eq_true H)]
  have z := q.f3.shut
  obtain ⟨j, B⟩ := z
  have D := cH (x := y) B.f3 (by assumption)
  rw [hfe]
  exact ⟨_, _, rfl, D.only 0 rfl⟩
 have H := decide_eq_false F
 refine wp_seq (aA (lw A [(1, I id), (3, pt_ n), (5, pt_ t), (6, pt_ c), (8, pt_ E)] aD fun j => (rc G 4 j [] [(29, .bool (!decide ((bM p) = 0)))] [qw 4 rfl (Shape.len hd), qc func155 rfl (fun W s b => mQ W (aR hd s.below)), .o] aD fun q A B n D => (aB (cQ (B.at 29) (fun t => ?_) (fun t => ?_))))))
 ·have c := gL t
  refine wp_seq (rk 3 n B [] [(33, .agg #[I y.now, I y.seq, d, g]), (35, I (bM p))] [qb 0 rfl 0, qw 4 rfl (Shape.len hd), qc func155 rfl (fun W s b => mQ W (aR hd s.below))] aD aD fun j q A D E => (sgn (aK aD (A.at 6) (A.at 33) (aC rfl (aC rfl (aC (Sl.one (aM (D.f3.get 2 rfl))) (aC (Sl.one (bX (D.f3.get 3 rfl))) bE)))) D.f3 bH rfl ?_))); intro j q
  refine sg (aF (A.at 35) (aB (wr (eH aL rfl results138 (A.at 6) (q.get 0 rfl) rfl rfl ?_))))
  have hfe : bV y id p = (y, bM p) := by unfold bV; rw [if_neg (by rw [(aX a)]; decide), if_neg (by rw [(aX K)]; decide), if_neg (of_decide_eq_false H), if_pos (of_decide_eq_false (aY c))]
  have z := q.f3.shut
  obtain ⟨j, A⟩ := z
  have D := cH (x := y) A.f3 (by assumption)
  rw [hfe]
  exact ⟨_, _, rfl, D.only 0 rfl⟩
 have c := gM t
 refine wp_seq (aA (rc n 5 B [] [(36, .bool (!(mG y p)))] [qw 5 rfl (Shape.len hc), qw 4 rfl (Shape.len hd), qc func196 rfl (fun W s b => RoomForS W (aR hc s.below) (aR hd s.below) aE), .o] aD fun j q A D E => (aB (bZ (A.at 36) (fun t => ?_) (fun t => ?_)))))
 ·refine wp_seq (aA (sg (aS (cs := [I y.now, I y.seq, d, g]) aL rfl (A.at 8) (D.get 0 rfl) rfl rfl (sgn (aK aD (A.at 6) rfl (aC rfl (aC rfl (aC (Sl.one (aM (D.f3.get 2 rfl))) (aC (Sl.one (bX (D.f3.get 3 rfl))) bE)))) D.f3 bH rfl ?_))))); intro j n
  refine sg (aG (aB (wr (eH aL rfl results138 (A.at 6) (n.get 0 rfl) rfl rfl ?_))))
  have hfe : bV y id p = (y, 7) := by unfold bV; rw [if_neg (by rw [(aX a)]; decide), if_neg (by rw [(aX K)]; decide), if_neg (of_decide_eq_false H), if_neg (fun hz => hz (of_decide_eq_true (aX c))), if_pos (aY t)]
  have z := n.f3.shut
  obtain ⟨j, B⟩ := z
  have E := cH (x := y) B.f3 (by assumption)
  rw [hfe]
  exact ⟨_, _, rfl, E.only 0 rfl⟩
 refine wp_skip (wp_seq ?_)
 have hY := iE (aX a)
 have hidr := inB_iff'.1 (aX K)
 have hpf : bM p = 0 := by simpa using (aX c)
 have hplr := nL hpf
 have hN : iM id p = true := by unfold iM; simp [(aX K), hpf]
 have hroom : mG y p = true := (aX t)
 have hrq : y.seq ≤ 999999000 - p.tasks ∧ y.runs.length < 8 := by unfold mG at hroom; simp at hroom; omega
 have hss : 4 ≤ y.shelf.length := by have := hY.shelf; omega
 have hsq : 0 ≤ y.seq ∧ y.seq ≤ 4000000000 := by have := hY.seq; omega
 have htl : (dZ id p).tasks.length = p.tasks.toNat := eX p _
 have htk : (bI (dZ id p).tasks 2).length ≤ (dZ id p).tasks.length := iV _ _ _
 have hpr : I64 (dZ id p).plan.prio := hpok.1
 have hri : I64 (dZ id p).id := by show I64 id; unfold I64; omega
 have hnow := hY.now
 have hsh := iA id
 have hln : (y.shelf.getD (bL (dZ id p).id).toNat []).length ≤ 1000000 := Nat.le_trans (kV hY _ (by have : bL (dZ id p).id = bL id := rfl; omega)) aZ
 refine aA (sg (aH (A.at 1) (sg (aV gU rfl (A.at 5) (D.get 4 rfl) (Shape.len hd) (sg (bN func197 rfl rfl rfl ((RunNewSt q id (aR hd D.below) hN aE).mono ?_))))))); rintro _ j ⟨n, B, rfl, E⟩; refine ⟨_, rfl, ?_⟩
 have F := St.call D E
 refine rn F 3 A.put.put.put [] [(46, .agg n.toArray), (47, .bool true)] [] aD fun G J => (sg (aQ fN F ?_)); intro L q M N
 refine sgn (aJ (cs := n) bP (bB (N.get 1 rfl) rfl) rfl (J.at 46) N rfl ?_); intro j B
 refine sg (aF (J.at 47) (aB (wp_seq (aA (rn B 3 J.put.put [] [(49, g), (50, .agg n.toArray)] [qb 2 rfl 3, qw 0 rfl (Shape.len (bB (B.get 1 rfl) rfl))] aD fun q A => (sg (aU (cs := n) (e := 123) (bR (A.at 50) dJ) (bG iK _ _ rfl (Shape.len (bB (B.get 1 rfl) rfl)) aZ) B ?_))))))); intro j D g E
 have F := E.f2.cs rfl
 refine sg (oT iK (A.at 49) rfl F.f1.f5 (by unfold maxLen; omega) aE ?_); intro q G n
 refine sg (aN dG (A.at 8) (sgn (aO (v := q) aD rfl rfl (Sl.cells (bX (n.f2.get 1 rfl).1)) (Sl.one (bX (n.f2.get 1 rfl).1)) n.f2 bH rfl ?_))); intro g j
 refine aB (wp_seq ?_)
 have B := (j.get 1 rfl).2
 refine aA (sg (aS (cs := [I y.now, I y.seq, d, q]) aL rfl (A.at 8) (j.get 0 rfl) rfl rfl (sg (dD (vs := []) (cs := [I 0, I 0, I 0, I 0, I 0, .slice none 0 0, I 0, .slice none 0 0]) dJ aD (sg (aV bP rfl (A.at 9) (j.get 2 rfl) (Shape.len B) (sg (eL func168 rfl rfl rfl rfl ((LayS j.f3 (Sl.one (bX (j.f3.get 2 rfl).1)) (fun W_ h_ => ⟨_, zRun_C W_⟩) (fun W_ h_ => ⟨_, (h_.get 1 rfl).2⟩) hss aE hln hsq).mono ?_))))))))); rintro _ g ⟨n, rfl, D⟩; refine ⟨_, rfl, ?_⟩
 refine sgn (aK aD (A.at 6) rfl (aC rfl (aC rfl (aC (Sl.one (aM (D.f4.get 1 rfl))) (aC (Sl.one (bX (D.f4.get 3 rfl).1)) bE)))) D.f4 bH rfl ?_); intro g j
 refine sg (aG (aB (wr (eH aL rfl results138 (A.at 6) (j.get 0 rfl) rfl rfl ?_))))
 have hfe : bV y id p = (vZ y id p, 0) := by unfold bV; rw [if_neg (by rw [(aX a)]; decide), if_neg (by rw [(aX K)]; decide), if_neg (of_decide_eq_false H), if_neg (fun hz => hz (of_decide_eq_true (aX c))), if_neg (by rw [(aX t)]; decide)]
 have d := j.f3.zrow
 rw [xL] at d
 have z := d.shut
 obtain ⟨g, n⟩ := z
 have q := cH (x := vZ y id p) n.f2 (show I64 _ ∧ I64 _ from by simp only [vZ, I64]; omega)
 rw [hfe]
 rw [xL]
 exact ⟨_, _, rfl, q.only 0 rfl⟩
def oV (t : Task) : Task := ⟨if t.need - 1 = 0 then 2 else t.state, t.need - 1, t.try_, t.until_⟩
def rG (ts : List Task) (k : Int) : List Task := match ts[k.toNat]? with | some t => ts.set k.toNat (oV t) | none => ts
def lG (ts : List Task) (l : List Int) : List Task := l.foldl rG ts
theorem aA0 (ts : List Task) (l : List Int) : lG ts (l.take 0) = ts := rfl
theorem behSt_at {ts : List Task} {k : Int} {t : Task} (h : ts[k.toNat]? = some t) : rG ts k = ts.set k.toNat (oV t) := by unfold rG; rw [h]
theorem vP {ts : List Task} {l : List Int} {j : Nat} {k : Int} {t u : Task} (hl : l[j]? = some k) (h : (lG ts (l.take j))[k.toNat]? = some t) (hu : oV t = u) : lG ts (l.take (j + 1)) = (lG ts (l.take j)).set k.toNat u := by
 obtain ⟨hj, rfl⟩ := gsi_.1 hl
 rw [take_succ_eq_append_getElem hj]
 unfold lG at h ⊢
 rw [foldl_append, foldl_cons, foldl_nil, behSt_at h, hu]
theorem aL2 {t : Task} (h : t.need - 1 = 0) : oV t = ⟨2, t.need - 1, t.try_, t.until_⟩ := by unfold oV; rw [if_pos h]
theorem aL1 {t : Task} (h : ¬ t.need - 1 = 0) : oV t = ⟨t.state, t.need - 1, t.try_, t.until_⟩ := by unfold oV; rw [if_neg h]
theorem behSt_len (ts : List Task) (k : Int) : (rG ts k).length = ts.length := by unfold rG; split <;> simp
theorem pT (ts : List Task) : ∀ l : List Int, (lG ts l).length = ts.length
 | [] => rfl
 | k :: l => by
  show (lG (rG ts k) l).length = _
  rw [pT _ l, behSt_len]
theorem behSt_all {P : Task → Prop} {ts : List Task} (h : ∀ t ∈ ts, P t) (hs : ∀ t, P t → P (oV t)) (k : Int) : ∀ t ∈ rG ts k, P t := by
 intro t ht
 unfold rG at ht
 split at ht
 ·next u hu =>
  rcases mem_or_eq_of_mem_set ht with s | rfl
  ·exact h t s
  exact hs u (h u (mem_of_getElem? hu))
 exact h t ht
theorem yD {P : Task → Prop} (hs : ∀ t, P t → P (oV t)) : ∀ (l : List Int) {ts : List Task}, (∀ t ∈ ts, P t) → ∀ t ∈ lG ts l, P t
 | [], ts, h => h
 | k :: l, ts, h => yD hs l (behSt_all h hs k)
theorem behSt_need {ts : List Task} {a b : Int} (h : ∀ t ∈ ts, a ≤ t.need ∧ t.need ≤ b) (k : Int) : ∀ t ∈ rG ts k, a - 1 ≤ t.need ∧ t.need ≤ b := by
 intro t ht
 unfold rG at ht
 split at ht
 ·next u hu =>
  rcases mem_or_eq_of_mem_set ht with s | rfl
  ·have := h t s; omega
  have := h u (mem_of_getElem? hu)
  simp only [oV]; omega
 have := h t ht; omega
theorem aA1 : ∀ (l : List Int) {ts : List Task} {a b : Int}, (∀ t ∈ ts, a ≤ t.need ∧ t.need ≤ b) → ∀ t ∈ lG ts l, a - l.length ≤ t.need ∧ t.need ≤ b
 | [], ts, a, b, h => fun t ht => by have := h t ht; simp; omega
 | k :: l, ts, a, b, h => fun t ht => by
  have := aA1 l (behSt_need h k) t ht
  simp only [length_cons]; omega
noncomputable def eA (r : Run) (i : Nat) (t : Task) : List Task := lG (r.tasks.set i ⟨4, t.need, t.try_, 0⟩) (dH r.plan (i : Int))
noncomputable def aH1 (r : Run) (i : Nat) (t : Task) : Run := ⟨r.id, r.plan, if cW (eA r i t) 4 = ((eA r i t).length : Int) then 2 else r.state, eA r i t⟩
noncomputable def gV (r : Run) (i : Nat) : Run := match r.tasks[i]? with | some t => aH1 r i t | none => r
theorem tC {r : Run} {i : Nat} {t : Task} (h : r.tasks[i]? = some t) : gV r i = aH1 r i t := by unfold gV; rw [h]
theorem xU (r : Run) (i : Nat) (t : Task) : (eA r i t).length = r.tasks.length := by unfold eA; rw [pT, length_set]
theorem nB (r : Run) (i : Nat) : (gV r i).id = r.id ∧ (gV r i).plan = r.plan ∧ (gV r i).tasks.length = r.tasks.length ∧ ((gV r i).state = r.state ∨ (gV r i).state = 2) := by
 unfold gV
 split
 ·next t h =>
  refine ⟨rfl, rfl, xU r i t, ?_⟩
  show (if _ then (2 : Int) else r.state) = _ ∨ (if _ then (2 : Int) else r.state) = _
  split
  ·exact .inr rfl
  exact .inl rfl
 exact ⟨rfl, rfl, rfl, .inl rfl⟩
theorem aH2 {r : Run} (h : r.ok) (i : Nat) : (gV r i).ok := by
 obtain ⟨s, t, a, b⟩ := nB r i
 unfold Run.ok at h ⊢
 rw [s, t]
 refine ⟨h.1, h.2.1, ?_⟩
 rcases b with b | b
 ·rw [b]; exact h.2.2
 rw [b]; unfold I64; omega
theorem vB {r : Run} (h : RunIs r) {i : Nat} {t : Task} (ht : r.tasks[i]? = some t) (h3 : t.state = 3) : eN (eA r i t) = (if cW (eA r i t) 4 = ((eA r i t).length : Int) then 2 else r.state) := by
 have hm := mem_of_getElem? ht
 have hl := h.live hm h3
 have a : ∀ u ∈ eA r i t, ¬ u.state = 5 ∧ ¬ u.state = 6 := by
  unfold eA
  refine yD (P := fun u => ¬ u.state = 5 ∧ ¬ u.state = 6) (fun u hu => ?_) _ (fun u hu => ?_)
  ·unfold oV; simp only; split
   ·omega
   exact hu
  rcases mem_or_eq_of_mem_set hu with b | rfl
  ·exact h.none5 hm h3 u b
  exact ⟨by show ¬ (4 : Int) = 5; omega, by show ¬ (4 : Int) = 6; omega⟩
 have c := uJ (s := 5) (fun u hu => (a u hu).1)
 have d := uJ (s := 6) (fun u hu => (a u hu).2)
 unfold eN
 by_cases c4 : cW (eA r i t) 4 = ((eA r i t).length : Int)
 ·rw [if_pos c4, if_pos c4]
 rw [if_neg c4, if_neg c4, if_neg aE, if_neg aE, if_pos ⟨c, d⟩, hl.1]
theorem doneTs_st {r : Run} (h : RunIs r) {i : Nat} {t : Task} (ht : r.tasks[i]? = some t) : ∀ u ∈ eA r i t, 1 ≤ u.state ∧ u.state ≤ 6 := by
 unfold eA
 refine yD (P := fun u => 1 ≤ u.state ∧ u.state ≤ 6) (fun u hu => ?_) _ (fun u hu => ?_)
 ·unfold oV; simp only; split
  ·omega
  exact hu
 rcases mem_or_eq_of_mem_set hu with s | rfl
 ·obtain ⟨k, hk, rfl⟩ := getElem_of_mem s
  exact (h.task k hk hk).1
 exact ⟨by show (1 : Int) ≤ 4; omega, by show (4 : Int) ≤ 6; omega⟩
theorem RunIs.need {r : Run} (h : RunIs r) : ∀ t ∈ r.tasks, 0 ≤ t.need ∧ t.need ≤ 30 := by
 intro t ht
 obtain ⟨k, hk, rfl⟩ := getElem_of_mem ht
 have s := (h.task k hk hk).2.1
 have a := rP r (bK r.plan (k : Int))
 have b := jW r.plan (k : Int)
 rw [s]; unfold jU; omega
theorem zR {r : Run} (h : RunIs r) {i : Nat} {t : Task} (ht : r.tasks[i]? = some t) (l : List Int) (hl : l.length ≤ 30) : ∀ u ∈ lG (r.tasks.set i ⟨4, t.need, t.try_, 0⟩) l, -30 ≤ u.need ∧ u.need ≤ 30 := by
 intro u hu
 have := aA1 l (a := 0) (b := 30) (fun u hu => by
  rcases mem_or_eq_of_mem_set hu with s | rfl
  ·exact h.need u s
  exact h.need t (mem_of_getElem? ht)) u hu
 omega
end Go.Proofs.YtchnllpegfbleaaGreat
