/-
  Runs that are right or not, of both; told to the reader.
  When a yard is right: of the program and of the reference.
  Yards that are right or not, of both; told to the reader.
  Disks: what is right, what is written, synced, cut, moved. Plain theory.
  Disks: written, synced, cut, of both.
  Plans, runs, yards copied, of both; told to the reader.
  Room for a run, of both.
  An entry put on a shelf, of both.
  What a yard gets on its shelf, of the program.
  Yards of which runs are turned: what is kept. Theory alone.
  What a worker is given, and from which shelf. Theory alone.
  Rows of numbers in bytes, read.
  Numbers that are read one by one. Theory alone.
  Numbers read one by one out of a text, of the reference; numbers handed out, of the program.
  A shelf read out of a text, of the reference.
  A plan's numbers, of the program.
  A yard read out of numbers: what both readers do, and what they find. Plain theory.
  Both readers of yards are one, and both readers of marks. Plain theory.
  A new yard, engine, world.
  A new yard, as a contract.
  Engines: right or not, copied, of both.
  An element of an owned slice is left out.
  A yard's text, of the program.
  A mark's steps, plain.
  A mark's steps, as calls; their weights.
  A mark, of both.
  Who holds what, room, new runs, shelves that are taken from, of both; told to the reader.
  A number's text, the shelf of an id, of both; told to the reader.
  Runs of which a task fails, yards that are turned, of the reference.
  What a change of a run lays on the shelves, of both: read where it is called.
  What was told to the reader, as calls (for the older walks).
  A task that is done: what becomes of a right run. Theory alone.
  Runs that are changed where they lie, of the program; told to the reader, and as calls.
  Yards that are started again, of both.
  A task that is done, of both.
  What is told of a task, of both.
  A task that failed, of both.
  A run that is left, of both.
  Runs that are done, or fail, or are left; what is told of work; starting anew; of the reference; told to the reader.
  Tasks that are late, yards whose time goes on. Theory alone.
  Late tasks of the program; told to the reader.
  Tasks that are late, time that goes on, of both.
-/
import Derived.Test.YtanpcpoogkdlaaaGreatQ01
import Derived.Test.YtanpcpoogkdlaaaGreatQ02
import Derived.Test.YtanpcpoogkdlaaaGreatQ03
import Derived.Test.YtanpcpoogkdlaaaGreatQ04
namespace Go.Proofs.YtanpcpoogkdlaaaGreat
set_option linter.unusedSimpArgs false
set_option linter.unusedVariables false
set_option maxRecDepth 100000
set_option maxHeartbeats 2000000
open Go.RowKit Go.Proofs.Tryz List
variable (w : World) {cs ds : List Value} {fp gp : List Nat}
theorem mI {p : Plan} (h : aG p = 0) : (1 ≤ p.tasks ∧ p.tasks ≤ 12) ∧ p.edges.length ≤ 30 ∧ EdgesIn p.tasks.toNat p.edges := by
 have h1 := oL h
 have h2 := vU h1.1
 exact ⟨h2.1, h2.2, h1.2.1⟩
noncomputable def aP6 (xs : List Int) (hn : xs.length ≤ 1000000) : Inc prog 406 (fun _ : Unit => True) where
 T := fun s us K => match us with
  | [.on (.ce (.rf j h))] => match lku s.O j with
   | some (.own i h' xs' _) => .e0 h h' <| .e1 (⟨i, xs'⟩ : Dat) ⟨instShapeInt, xs⟩ <| .fn fun fp : List Nat => K () (.tu []) ⟨s.E, (j, .own instShapeInt h (jD xs) fp) :: bO s.O j, lasting s.B, s.nx⟩
   | _ => .no
  | _ => .no
 ok := by
  intro w0 W s us K h st fa
  split at h
  ·next j hd =>
   split at h
   ·next i h' xs' fp hj =>
    obtain ⟨rfl, h2, h3⟩ := h
    simp only [Dat.mk.injEq] at h2
    obtain ⟨rfl, h5, h6⟩ := h2
    obtain ⟨rfl, rfl⟩ := And.intro (eq_of_heq h5) (eq_of_heq h6)
    have st2 := St.take (rs := []) (by simpa [Or, S.rs] using st) hj
    rw [append_nil] at st2
    refine (SortOwn st2 hn).mono ?_
    rintro e W' ⟨rfl, fp', st'⟩
    exact ⟨(), .tu [], _, trivial, h3 fp', rfl, st', fa.lasting⟩
   exact h.elim
  exact h.elim
theorem froms_t {es : List Edge} {k : Nat} {e : Edge} {task : Int} (h : es[k]? = some e) (he : e.to_ = task) : bX (es.take k) task ++ [e.from_] = bX (es.take (k + 1)) task := by
 obtain ⟨hk, rfl⟩ := gsi_.1 h
 unfold bX; rw [take_succ_eq_append_getElem hk, filter_append, map_append]; simp [he]
theorem froms_f {es : List Edge} {k : Nat} {e : Edge} {task : Int} (h : es[k]? = some e) (he : ¬ e.to_ = task) : bX (es.take k) task = bX (es.take (k + 1)) task := by
 obtain ⟨hk, rfl⟩ := gsi_.1 h
 unfold bX; rw [take_succ_eq_append_getElem hk, filter_append, map_append]; simp [he]
theorem xT (p : Plan) (task : Int) : Ct1 prog 379 [.S p, .I task] [.L (aN p task)] :=
 .one (aN p task) (rk := fun l => [.L l]) <| vc func379 (fun (hg : gin [Par.S p, Par.I task]) => let gp : p.ok := hg.1.1
  .c func302 (gF p) (hg := ⟨gp, trivial⟩) fun _ => .u (aG p = 0) (fun h => .rt [] ⟨by unfold aN; rw [if_neg h], trivial⟩) (fun h => let he := (mI h).2.1
   .w Int 3 5 <| .la (Γ := Nat) (fun k => k ≤ p.edges.length) (fun k => p.edges.length - k) (fun k => [vI 14 k, vR 5 2]) (fun k => [oR 2 3 (bX (p.edges.take k) task)]) 0 fun k hk t => let hl := nP (p.edges.take k) task
    let hl2 : (p.edges.take k).length ≤ 30 := (by rw [length_take]; omega)
    .s ((k : Int) < p.edges.length)
     (fun h2 => .x p.edges k (h := by omega) fun e he ge => .s (e.to_ = task)
      (fun h3 => .a (bX (p.edges.take k) task) e.from_ 8 (hy := (show e.ok from ge).1) (h63 := by unfold maxLen; omega) (hby := by omega) <| .g 2 (froms_t he h3) <| .p k 1 (h := by unfold I64; omega) <| .n t (k + 1) [])
      (fun h3 => .g 2 (froms_f he h3) <| .p k 1 (h := by unfold I64; omega) <| .n t (k + 1) []))
     (fun h2 => .sh 2 <| .g 2 (show bX (p.edges.take k) task = bX p.edges task by rw [take_of_length_le aA]) <| .iv _ func406 (aP6 (bX p.edges task) (by have := nP p.edges task; omega)) fun _ _ => .rt (jD (bX p.edges task)) ⟨by unfold aN; rw [if_pos h], trivial⟩))) aB
theorem tos_t {es : List Edge} {k : Nat} {e : Edge} {task : Int} (h : es[k]? = some e) (he : e.from_ = task) : tos (es.take k) task ++ [e.to_] = tos (es.take (k + 1)) task := by
 obtain ⟨hk, rfl⟩ := gsi_.1 h
 unfold tos; rw [take_succ_eq_append_getElem hk, filter_append, map_append]; simp [he]
theorem tos_f {es : List Edge} {k : Nat} {e : Edge} {task : Int} (h : es[k]? = some e) (he : ¬ e.from_ = task) : tos (es.take k) task = tos (es.take (k + 1)) task := by
 obtain ⟨hk, rfl⟩ := gsi_.1 h
 unfold tos; rw [take_succ_eq_append_getElem hk, filter_append, map_append]; simp [he]
theorem BehindOf_i (p : Plan) (task : Int) : Ct1 prog 381 [.S p, .I task] [.L (aV p task)] :=
 .one (aV p task) (rk := fun l => [.L l]) <| vc func381 (fun (hg : gin [Par.S p, Par.I task]) => let gp : p.ok := hg.1.1
  .c func302 (gF p) (hg := ⟨gp, trivial⟩) fun _ => .u (aG p = 0) (fun h => .rt [] ⟨by unfold aV; rw [if_neg h], trivial⟩) (fun h => let he := (mI h).2.1
   .w Int 3 5 <| .la (Γ := Nat) (fun k => k ≤ p.edges.length) (fun k => p.edges.length - k) (fun k => [vI 14 k, vR 5 2]) (fun k => [oR 2 3 (tos (p.edges.take k) task)]) 0 fun k hk t => let hl := tT (p.edges.take k) task
    let hl2 : (p.edges.take k).length ≤ 30 := (by rw [length_take]; omega)
    .s ((k : Int) < p.edges.length)
     (fun h2 => .x p.edges k (h := by omega) fun e he ge => .s (e.from_ = task)
      (fun h3 => .a (tos (p.edges.take k) task) e.to_ 8 (hy := (show e.ok from ge).2) (h63 := by unfold maxLen; omega) (hby := by omega) <| .g 2 (tos_t he h3) <| .p k 1 (h := by unfold I64; omega) <| .n t (k + 1) [])
      (fun h3 => .g 2 (tos_f he h3) <| .p k 1 (h := by unfold I64; omega) <| .n t (k + 1) []))
     (fun h2 => .sh 2 <| .g 2 (show tos (p.edges.take k) task = tos p.edges task by rw [take_of_length_le aA]) <| .iv _ func406 (aP6 (tos p.edges task) (by have := tT p.edges task; omega)) fun _ _ => .rt (jD (tos p.edges task)) ⟨by unfold aV; rw [if_pos h], trivial⟩))) aB
theorem aB0 (p : Plan) (task : Int) (h : aG p = 0) : Ct1 prog 386 [.S p, .I task] [.L (aN p task)] := by
 have := Before_s p task (mI h).1 (mI h).2.1 (mI h).2.2
 unfold aN; rw [if_pos h]; exact this
theorem BehindP_s (p : Plan) (task : Int) (h : aG p = 0) : Ct1 prog 391 [.S p, .I task] [.L (aV p task)] := by
 have := Behind_s p task (mI h).1 (mI h).2.1 (mI h).2.2
 unfold aV; rw [if_pos h]; exact this
theorem bD8 {r : Run} {task b : Int} {k : Nat} (hlen : (r.tasks.length : Int) = r.plan.tasks) (h : (aN r.plan task)[k]? = some b) : b = (b.toNat : Int) ∧ ∃ t, r.tasks[b.toNat]? = some t := by
 have h1 := before_rng r.plan task b (mem_of_getElem? h)
 exact ⟨by omega, r.tasks[b.toNat]'(by omega), getElem?_eq_getElem aA⟩
theorem bA5 {r : Run} {l : List Int} {k : Nat} {b : Int} {t : Task} (h : l[k]? = some b) (ht : r.tasks[b.toNat]? = some t) (h4 : t.state = 4) : fE r (l.take (k + 1)) = fE r (l.take k) := by
 obtain ⟨hk, rfl⟩ := gsi_.1 h
 obtain ⟨hb, rfl⟩ := gsi_.1 ht
 rw [tG hk, zH hb, if_pos (by simpa using h4)]; omega
theorem bA6 {r : Run} {l : List Int} {k : Nat} {b : Int} {t : Task} (h : l[k]? = some b) (ht : r.tasks[b.toNat]? = some t) (h4 : ¬ t.state = 4) : fE r (l.take (k + 1)) = fE r (l.take k) + 1 := by
 obtain ⟨hk, rfl⟩ := gsi_.1 h
 obtain ⟨hb, rfl⟩ := gsi_.1 ht
 rw [tG hk, zH hb, if_neg (by simpa using h4)]
theorem aR3 (r : Run) (task : Int) (k : Nat) : 0 ≤ fE r ((aN r.plan task).take k) ∧ fE r ((aN r.plan task).take k) ≤ 30 := by
 have h1 := vX r ((aN r.plan task).take k)
 have h2 := hX r.plan task
 rw [length_take] at h1
 omega
theorem aH8 {r : Run} {task : Int} {k : Nat} (hk : k ≤ (aN r.plan task).length) (h : ¬ (k : Int) < (aN r.plan task).length) : fE r ((aN r.plan task).take k) = fD r task := by
 rw [take_of_length_le aA]; rfl
theorem NeedOf_i (r : Run) (task : Int) (hlen : (r.tasks.length : Int) = r.plan.tasks) : Ct1 prog 393 [.S r, .I task] [.I (fD r task)] :=
 .one (fD r task) (rk := fun x => [.I x]) <| vc func393 (fun (hg : gin [Par.S r, Par.I task]) => .c func379 (xT r.plan task) (hg := ⟨hg.1.1.2.1, trivial⟩) fun _ => let hbl := hX r.plan task
  .l (Γ := Nat × Int) (fun g => g.1 ≤ (aN r.plan task).length ∧ g.2 = fE r ((aN r.plan task).take g.1)) (fun g => (aN r.plan task).length - g.1) [2, 11, 12] [2, 3] [0, 1] (fun g => [vI 5 g.2, vI 13 g.1]) (fun _ => []) (0, 0) (h := ⟨Nat.zero_le _, rfl⟩) fun g hJ t => let hbd := aR3 r task g.1
   let hj2 := hJ.2
   .s ((g.1 : Int) < (aN r.plan task).length)
    (fun h => .x (aN r.plan task) g.1 (h := by omega) fun b hb gb => let hbt := bD8 hlen hb
     .ex hbt.2 fun u hu => .ye hu b (he := hbt.1) fun gu => .u (u.state = 4)
      (fun h4 => .p g.2 1 (h := by unfold I64; omega) <| .p g.1 1 (h := by unfold I64; omega) <| .n t (g.1 + 1, g.2 + 1) [] ⟨by show g.1 + 1 ≤ _; omega, by show g.2 + 1 = _; rw [bA6 hb hu h4, hJ.2]⟩ (by dsimp only; omega))
      (fun h4 => .p g.1 1 (h := by unfold I64; omega) <| .n t (g.1 + 1, g.2) [] ⟨by show g.1 + 1 ≤ _; omega, by show g.2 = _; rw [bA5 hb hu h4, hJ.2]⟩ (by dsimp only; omega)))
    (fun h => .rt g.2 ⟨hJ.2.trans (aH8 hJ.1 h), trivial⟩)) aB
theorem gI {P : Prop} (h : P := by (unfold dU; simp only [Bool.and_eq_true, Bool.or_eq_true, Bool.not_eq_true', Bool.or_eq_false_iff, Bool.and_eq_false_iff, Bool.not_eq_false', decide_eq_true_eq, decide_eq_false_iff_not, inB_iff', inB_f', Bool.false_eq_true, iff_false, iff_true] at *; omega)) : P := h
theorem tb_ {p : Prop} {b : Bool} (h : p ↔ b = true) : b = pB p := (pB_b h).symm
theorem TaskOk_i (r : Run) (k : Nat) (u : Task) (hu : r.tasks[k]? = some u) (hlen : (r.tasks.length : Int) = r.plan.tasks) : Ct1 prog 343 [.S r, .I (k : Int)] [.B (pB (dU r (fD r (k : Int)) u))] :=
 .one (pB (dU r (fD r (k : Int)) u)) (rk := fun x => [.B x]) <| vc func343 (fun (hg : gin [Par.S r, Par.I (k : Int)]) => .y hu fun _ =>
  .c func92 (cE u.state 1 6) fun _ => .v (inB u.state 1 6) (fun h => .rt false ⟨tb_ gI, trivial⟩) (fun h1 =>
  .c func393 (NeedOf_i r k hlen) (hg := ⟨hg.1.1, trivial⟩) fun _ => .u (u.need = fD r (k : Int)) (fun h => .rt false ⟨tb_ gI, trivial⟩) (fun h2 =>
  .c func92 (cE u.try_ 0 r.plan.most) fun _ => .v (inB u.try_ 0 r.plan.most) (fun h => .rt false ⟨tb_ gI, trivial⟩) (fun h3 =>
  .s (u.state = 3)
   (fun h4 => .c func92 (cE u.until_ 1 1000000000) fun _ => .v (inB u.until_ 1 1000000000) (fun h => .rt false ⟨tb_ gI, trivial⟩) (fun h5 =>
    .uf (u.state = 3) h4 <| .kf (u.state = 1) aA <| .kf (u.state = 2) aA <| .kt (u.state = 3) h4 <| .s (u.need = 0) (fun h6 => .rt (decide ((1 : Int) ≤ u.try_)) ⟨tb_ gI, trivial⟩) (fun h6 => .rt false ⟨tb_ gI, trivial⟩)))
   (fun h4 => .ut (u.state = 3) h4 <| .u (u.until_ = 0) (fun h => .rt false ⟨tb_ gI, trivial⟩) (fun h5 =>
    .s (u.state = 1) (fun h6 => .rt (decide ((0 : Int) < u.need)) ⟨tb_ gI, trivial⟩) (fun h6 =>
    .s (u.state = 2) (fun h7 => .s (u.need = 0) (fun h8 => .rt (decide (u.try_ < r.plan.most)) ⟨tb_ gI, trivial⟩) (fun h8 => .rt false ⟨tb_ gI, trivial⟩)) (fun h7 =>
    .kf (u.state = 3) h4 <| .s (u.state = 4) (fun h8 => .s (u.need = 0) (fun h9 => .rt (decide ((1 : Int) ≤ u.try_)) ⟨tb_ gI, trivial⟩) (fun h9 => .rt false ⟨tb_ gI, trivial⟩)) (fun h8 =>
    .s (u.state = 5) (fun h9 => .s (u.need = 0) (fun h10 => .rt (decide ((1 : Int) ≤ u.try_)) ⟨tb_ gI, trivial⟩) (fun h10 => .rt false ⟨tb_ gI, trivial⟩)) (fun h9 => .rt true ⟨tb_ gI, trivial⟩)))))))))) aB
theorem TaskOk_s (r : Run) (k : Nat) (u : Task) (hu : r.tasks[k]? = some u) (hlen : (r.tasks.length : Int) = r.plan.tasks) (hP : aG r.plan = 0) (hs : 1 ≤ u.state ∧ u.state ≤ 6) : Ct1 prog 372 [.S r, .I (k : Int)] [.B (pB (dU r (fD r (k : Int)) u))] :=
 .one (pB (dU r (fD r (k : Int)) u)) (rk := fun x => [.B x]) <| vc func372 (fun (hg : gin [Par.S r, Par.I (k : Int)]) => .y hu fun _ => .c func386 (aB0 r.plan k hP) (hg := ⟨hg.1.1.2.1, trivial⟩) fun _ => let hbl := hX r.plan (k : Int)
  .l (Γ := Nat × Int) (fun g => g.1 ≤ (aN r.plan (k : Int)).length ∧ g.2 = fE r ((aN r.plan (k : Int)).take g.1)) (fun g => (aN r.plan (k : Int)).length - g.1) [2, 5, 7] [2, 4, 5] [0, 1] (fun g => [vI 6 g.2, vI 8 g.1]) (fun _ => []) (0, 0) (h := ⟨Nat.zero_le _, rfl⟩) fun g hJ t => let hbd := aR3 r (k : Int) g.1
   let hj2 := hJ.2
   .s ((g.1 : Int) < (aN r.plan (k : Int)).length)
    (fun h => .x (aN r.plan (k : Int)) g.1 (h := by omega) fun b hb gb => let hbt := bD8 hlen hb
     .ex hbt.2 fun v hv => .ye hv b (he := hbt.1) fun gu => .u (v.state = 4)
      (fun h4 => .p g.2 1 (h := by unfold I64; omega) <| .p g.1 1 (h := by unfold I64; omega) <| .n t (g.1 + 1, g.2 + 1) [] ⟨by show g.1 + 1 ≤ _; omega, by show g.2 + 1 = _; rw [bA6 hb hv h4, hJ.2]⟩ (by dsimp only; omega))
      (fun h4 => .p g.1 1 (h := by unfold I64; omega) <| .n t (g.1 + 1, g.2) [] ⟨by show g.1 + 1 ≤ _; omega, by show g.2 = _; rw [bA5 hb hv h4, hJ.2]⟩ (by dsimp only; omega)))
    (fun h => let hn := hJ.2.trans (aH8 hJ.1 h)
     .u (u.need = g.2) (fun h => .rt false ⟨tb_ gI, trivial⟩) (fun h2 =>
     .c func138 (InV u.try_ 0 r.plan.most) fun _ => .v (inB u.try_ 0 r.plan.most) (fun h => .rt false ⟨tb_ gI, trivial⟩) (fun h3 =>
     .s (u.state = 3)
      (fun h4 => .c func138 (InV u.until_ 1 1000000000) fun _ => .v (inB u.until_ 1 1000000000) (fun h => .rt false ⟨tb_ gI, trivial⟩) (fun h5 =>
       .uf (u.state = 3) h4 <| .kf (u.state = 1) aA <| .kf (u.state = 2) aA <| .kt (u.state = 3) h4 <| .s (g.2 = 0) (fun h6 => .rt (decide ((1 : Int) ≤ u.try_)) ⟨tb_ gI, trivial⟩) (fun h6 => .rt false ⟨tb_ gI, trivial⟩)))
      (fun h4 => .ut (u.state = 3) h4 <| .u (u.until_ = 0) (fun h => .rt false ⟨tb_ gI, trivial⟩) (fun h5 =>
       .s (u.state = 1) (fun h6 => .rt (decide ((0 : Int) < g.2)) ⟨tb_ gI, trivial⟩) (fun h6 =>
       .s (u.state = 2) (fun h7 => .s (g.2 = 0) (fun h8 => .rt (decide (u.try_ < r.plan.most)) ⟨tb_ gI, trivial⟩) (fun h8 => .rt false ⟨tb_ gI, trivial⟩)) (fun h7 =>
       .kf (u.state = 3) h4 <| .s (u.state = 4) (fun h8 => .s (g.2 = 0) (fun h9 => .rt (decide ((1 : Int) ≤ u.try_)) ⟨tb_ gI, trivial⟩) (fun h9 => .rt false ⟨tb_ gI, trivial⟩)) (fun h8 =>
       .s (u.state = 5) (fun h9 => .s (g.2 = 0) (fun h10 => .rt (decide ((1 : Int) ≤ u.try_)) ⟨tb_ gI, trivial⟩) (fun h10 => .rt false ⟨tb_ gI, trivial⟩)) (fun h9 => .rt (decide (u.state = 6)) ⟨tb_ gI, trivial⟩)))))))))) aB
theorem tiStep_t {ts : List Task} {s : Int} {k : Nat} {u : Task} (hu : ts[k]? = some u) (h : u.state = s) : cT ts s k ++ [(k : Int)] = cT ts s (k + 1) := by
 obtain ⟨hk, rfl⟩ := gsi_.1 hu
 rw [nB hk h]
theorem tiStep_f {ts : List Task} {s : Int} {k : Nat} {u : Task} (hu : ts[k]? = some u) (h : ¬ u.state = s) : cT ts s k = cT ts s (k + 1) := by
 obtain ⟨hk, rfl⟩ := gsi_.1 hu
 rw [rQ hk h]
theorem tiAll {ts : List Task} {s : Int} {k : Nat} (hk : k ≤ ts.length) (h : ¬ (k : Int) < ts.length) : cT ts s k = aK ts s := by
 rw [show k = ts.length by omega]; rfl
theorem iA (r : Run) (s : Int) (hl : r.tasks.length ≤ 1048576) : Ct1 prog 30 [.S r, .I s] [.L (aK r.tasks s)] :=
 vc func30 (fun hg => .w Int 3 5 <| .l (Γ := Nat) (fun k => k ≤ r.tasks.length) (fun k => r.tasks.length - k) [1, 2, 9, 10] [2] [0, 1] (fun k => [vR 5 3, vI 11 k]) (fun k => [oR 3 3 (cT r.tasks s k)]) 0 fun k hk t =>
  .s ((k : Int) < r.tasks.length)
   (fun h => .x r.tasks k (h := by omega) fun u hu gu => let hln := eZ r.tasks s k
    .s (u.state = s)
    (fun h2 => .a (cT r.tasks s k) (k : Int) 8 (hy := by show I64 _; unfold I64; omega) (h63 := by unfold maxLen; omega) (hby := by omega) <| .g 3 (tiStep_t hu h2) <| .p k 1 (h := by unfold I64; omega) <| .n t (k + 1) [])
    (fun h2 => .g 3 (tiStep_f hu h2) <| .p k 1 (h := by unfold I64; omega) <| .n t (k + 1) []))
   (fun h => .g 3 (tiAll (s := s) hk h) <| .rt () ⟨trivial, trivial⟩)) aB
structure RkJ (r : Run) (k : Nat) : Prop where
 le : k ≤ r.tasks.length
 ok : ∀ j, j < k → lM r j
theorem RkJ.start (r : Run) : RkJ r 0 := ⟨Nat.zero_le _, fun j h => by omega⟩
theorem RkJ.next {r : Run} {k : Nat} {u : Task} (h : RkJ r k) (hu : r.tasks[k]? = some u) (ho : pB (dU r (fD r (k : Int)) u) = true) : RkJ r (k + 1) := by
 obtain ⟨hk, rfl⟩ := gsi_.1 hu
 refine ⟨hk, fun j hj => ?_⟩
 rcases Nat.lt_succ_iff_lt_or_eq.1 hj with h1 | rfl
 ·exact h.ok j h1
 exact fun _ => pB_iff.1 ho
theorem aZ4 {r : Run} {k : Nat} {u : Task} (hu : r.tasks[k]? = some u) (ho : pB (dU r (fD r (k : Int)) u) = false) : false = cU r := by
 obtain ⟨hk, rfl⟩ := gsi_.1 hu
 unfold cU
 rw [lB (fun hz => aZ8 ho (hz.2.2.2.1 k hk hk))]
theorem yR {r : Run} (h : ¬ ((1 ≤ r.id ∧ r.id ≤ 9999) ∧ aG r.plan = 0 ∧ (r.tasks.length : Int) = r.plan.tasks)) : false = cU r := by
 unfold cU
 rw [lB (fun hz => h ⟨hz.1, hz.2.1, hz.2.2.1⟩)]
theorem rk_st {r : Run} (h : ∃ (k : Nat) (u : Task), r.tasks[k]? = some u ∧ ¬ (1 ≤ u.state ∧ u.state ≤ 6)) : false = cU r := by
 obtain ⟨k, u, hu, h⟩ := h
 obtain ⟨hk, rfl⟩ := gsi_.1 hu
 unfold cU
 rw [lB (fun hz => h (hz.2.2.2.1 k hk hk).1)]
theorem aG6 {r : Run} {k : Nat} (h : RkJ r k) (hk : ¬ (k : Int) < r.tasks.length) : (∀ j, j < r.tasks.length → lM r j) ∧ (aL r.tasks 1 + aL r.tasks 2 + aL r.tasks 3 + aL r.tasks 4 + aL r.tasks 5 + aL r.tasks 6 = r.tasks.length) := by
 have h1 : ∀ j, j < r.tasks.length → lM r j := fun j hj => h.ok j (by have := h.le; omega)
 exact ⟨h1, aU3 (states_of h1)⟩
theorem aV4 (r : Run) : Ct1 prog 231 [.S r] [.B (cU r)] :=
 .one (cU r) (rk := fun x => [.B x]) <| vc func231 (fun (hg : gin [Par.S r]) => let gr := hg.1.1
  .c func92 (cE r.id 1 9999) fun _ => .v (inB r.id 1 9999) (fun h => .rt false ⟨yR (fun z => pG h z.1), trivial⟩) (fun h1 =>
  .c func302 (gF r.plan) (hg := ⟨gr.2.1, trivial⟩) fun _ => .u (aG r.plan = 0) (fun h => .rt false ⟨yR (fun z => h z.2.1), trivial⟩) (fun h2 =>
  .u ((r.tasks.length : Int) = r.plan.tasks) (fun h => .rt false ⟨yR (fun z => h z.2.2), trivial⟩) (fun h3 => let hpt := (mI h2).1
  .l (Γ := Nat) (fun k => RkJ r k) (fun k => r.tasks.length - k) [1, 28, 29] [2] [0, 1] (fun k => [vI 30 k]) (fun _ => []) 0 (h := RkJ.start r) fun k hJ t => let hk0 := hJ.le
   .s ((k : Int) < r.tasks.length)
    (fun h => .ex (p := fun u => r.tasks[k]? = some u) ⟨_, getElem?_eq_getElem (show k < r.tasks.length by omega)⟩ fun u hu => .c func343 (TaskOk_i r k u hu h3) (hg := ⟨gr, trivial⟩) fun _ => .v (pB (dU r (fD r (k : Int)) u))
     (fun h4 => .rt false ⟨aZ4 hu h4, trivial⟩)
     (fun h4 => .p k 1 (h := by unfold I64; omega) <| .n t (k + 1) [] (hJ.next hu h4) aA))
    (fun h => let hf := aG6 hJ h
     let hc := oI r.tasks
     let e4 := iN r.tasks 4
     let e5 := iN r.tasks 5
     let e6 := iN r.tasks 6
     let n1 := dH r.tasks 1
     let n2 := dH r.tasks 2
     let n3 := dH r.tasks 3
     let hs := hf.2
     let fin : ∀ {b : Bool}, ((r.state = bH r.tasks ∧ ¬ r.state = 0) ↔ b = true) → b = cU r := fun hz => (aQ2 ⟨inB_iff.1 h1, h2, h3⟩ hf.1 hz).symm
     let over := ((aK r.tasks 4).length : Int) + (aK r.tasks 5).length + (aK r.tasks 6).length = r.tasks.length
     let tail : ¬ ((aK r.tasks 4).length : Int) = r.tasks.length → ¬ (((aK r.tasks 5).length : Int) = 1 ∧ over) → ¬ (((aK r.tasks 5).length : Int) = 0 ∧ (0 : Int) < (aK r.tasks 6).length ∧ over) → D prog (fun a : Bool => a = cU r ∧ rgd [Rk.B a]) := fun q1 q2 q3 =>
      .s (r.state = 1)
       (fun q4 => .s (((aK r.tasks 5).length : Int) = 0)
        (fun q5 => .rt (decide (((aK r.tasks 6).length : Int) = 0)) ⟨fin (by simp only [decide_eq_true_eq]; omega), trivial⟩)
        (fun q5 => .rt false ⟨fin (by simp only [Bool.false_eq_true, iff_false]; omega), trivial⟩))
       (fun q4 => .rt false ⟨fin (by simp only [Bool.false_eq_true, iff_false]; omega), trivial⟩)
     .c func30 (iA r 4 aA) (hg := ⟨gr, trivial⟩) fun _ => .c func30 (iA r 5 aA) (hg := ⟨gr, trivial⟩) fun _ => .c func30 (iA r 6 aA) (hg := ⟨gr, trivial⟩) fun _ =>
     .p ((aK r.tasks 4).length : Int) ((aK r.tasks 5).length : Int) (h := by unfold I64; omega) <| .p (((aK r.tasks 4).length : Int) + (aK r.tasks 5).length) ((aK r.tasks 6).length : Int) (h := by unfold I64; omega) <|
     .s (((aK r.tasks 4).length : Int) = r.tasks.length)
      (fun q1 => .rt (decide (r.state = 2)) ⟨fin (by simp only [decide_eq_true_eq]; omega), trivial⟩)
      (fun q1 => .s (((aK r.tasks 5).length : Int) = 1)
       (fun q2 => .s over
        (fun q3 => .rt (decide (r.state = 3)) ⟨fin (by simp only [decide_eq_true_eq]; omega), trivial⟩)
        (fun q3 => .kf (((aK r.tasks 5).length : Int) = 0) aA <| tail q1 (fun z => q3 z.2) (fun z => q3 z.2.2)))
       (fun q2 => .s (((aK r.tasks 5).length : Int) = 0)
        (fun q3 => .s ((0 : Int) < (aK r.tasks 6).length)
         (fun q4 => .s over
          (fun q5 => .rt (decide (r.state = 4)) ⟨fin (by simp only [decide_eq_true_eq]; omega), trivial⟩)
          (fun q5 => tail q1 (fun z => q5 z.2) (fun z => q5 z.2.2)))
         (fun q4 => tail q1 (fun z => q2 z.1) (fun z => q4 z.2.1)))
        (fun q3 => tail q1 (fun z => q2 z.1) (fun z => q3 z.1))))))))) aB
theorem cnts_st {ts : List Task} {k : Nat} {u : Task} (hu : ts[k]? = some u) (hs : 1 ≤ u.state ∧ u.state ≤ 6) : ∃ x, (gG (ts.take k))[u.state.toNat]? = some x ∧ (0 ≤ x ∧ x ≤ ts.length) ∧ (gG (ts.take k)).set u.state.toNat (x + 1) = gG (ts.take (k + 1)) := by
 obtain ⟨hk, rfl⟩ := gsi_.1 hu
 have hl : ts[k].state.toNat < (gG (ts.take k)).length := by rw [cnts_len]; omega
 refine ⟨_, getElem?_eq_getElem hl, ?_, cnts_set hk hs hl⟩
 have := cnts_rng (ts.take k) _ hl
 rw [length_take] at this
 omega
theorem aV3 (r : Run) (hS : ∀ t ∈ r.tasks, 1 ≤ t.state ∧ t.state ≤ 6) (hl : r.tasks.length ≤ 1048576) : Ct1 prog 373 [.S r] [.I (bH r.tasks)] :=
 .one (bH r.tasks) (rk := fun x => [.I x]) <| vc func373 (fun hg => .li (inferInstance : Dsh Int) 6 [0, 0, 0, 0, 0, 0, 0] (by simp) (by simp) (by intro y hy; simp at hy; subst hy; show I64 0; unfold I64; omega) <|
  .g 3 (cnts_nil.symm) <| .l (Γ := Nat) (fun k => k ≤ r.tasks.length) (fun k => r.tasks.length - k) [1] [2] [0, 1] (fun k => [vR 3 3, vI 4 k]) (fun k => [oO 3 (gG (r.tasks.take k))]) 0 fun k hk t =>
   .s ((k : Int) < r.tasks.length)
    (fun h => .x r.tasks k (h := by omega) fun u hu gu => let hs := hS u (mem_of_getElem? hu)
     .ex (cnts_st hu hs) fun x hx => .d 3 hx.1 fun gx => .ie u.state.toNat u.state (he := by omega) <| .p x 1 (h := by have := hx.2.1; unfold I64; omega) <| .ie u.state.toNat u.state (he := by omega) <|
     .wt 12 <| .f 3 (gG (r.tasks.take k)) (x + 1) (h := by have := hx.2.1; show I64 _; unfold I64; omega) <| .g 3 hx.2.2 <| .p k 1 (h := by unfold I64; omega) <| .n t (k + 1) [])
    (fun h => .g 3 (show gG (r.tasks.take k) = gG r.tasks by rw [take_of_length_le aA]) <|
     let hc := oI r.tasks
     let n1 := dH r.tasks 1
     let n2 := dH r.tasks 2
     let n3 := dH r.tasks 3
     let m1 := uK r.tasks 1
     let m2 := uK r.tasks 2
     let m3 := uK r.tasks 3
     let rest := aL r.tasks 1 + aL r.tasks 2 + aL r.tasks 3 = 0
     let at5 : (gG r.tasks)[5]? = some (aL r.tasks 5) := rfl
     let at6 : (gG r.tasks)[6]? = some (aL r.tasks 6) := rfl
     let t13 : ¬ aL r.tasks 4 = (r.tasks.length : Int) → ¬ (aL r.tasks 5 = 1 ∧ rest) → ¬ (aL r.tasks 5 = 0 ∧ (0 : Int) < aL r.tasks 6 ∧ rest) → D prog (fun a : Int => a = bH r.tasks ∧ rgd [Rk.I a]) := fun q1 q2 q3 =>
      .y at5 fun _ => .s (aL r.tasks 5 = 0)
       (fun q4 => .y at6 fun _ => .s (aL r.tasks 6 = 0) (fun q5 => .rt 1 ⟨(hc.2.2.2.1 q1 q2 q3 ⟨q4, q5⟩).symm, trivial⟩) (fun q5 => .rt 0 ⟨(hc.2.2.2.2 q1 q2 q3 (fun z => q5 z.2)).symm, trivial⟩))
       (fun q4 => .rt 0 ⟨(hc.2.2.2.2 q1 q2 q3 (fun z => q4 z.1)).symm, trivial⟩)
     let t11 : ¬ aL r.tasks 4 = (r.tasks.length : Int) → ¬ (aL r.tasks 5 = 1 ∧ rest) → D prog (fun a : Int => a = bH r.tasks ∧ rgd [Rk.I a]) := fun q1 q2 =>
      .y at5 fun _ => .s (aL r.tasks 5 = 0)
       (fun q3 => .y at6 fun _ => .s ((0 : Int) < aL r.tasks 6)
        (fun q4 => .s rest (fun q5 => .rt 4 ⟨(hc.2.2.1 q1 q2 ⟨q3, q4, q5⟩).symm, trivial⟩) (fun q5 => t13 q1 q2 (fun z => q5 z.2.2)))
        (fun q4 => t13 q1 q2 (fun z => q4 z.2.1)))
       (fun q3 => t13 q1 q2 (fun z => q3 z.1))
     .y (show (gG r.tasks)[1]? = some (aL r.tasks 1) from rfl) fun _ => .y (show (gG r.tasks)[2]? = some (aL r.tasks 2) from rfl) fun _ => .p (aL r.tasks 1) (aL r.tasks 2) (h := by unfold I64; omega) <| .y (show (gG r.tasks)[3]? = some (aL r.tasks 3) from rfl) fun _ => .p (aL r.tasks 1 + aL r.tasks 2) (aL r.tasks 3) (h := by unfold I64; omega) <|
     .y (show (gG r.tasks)[4]? = some (aL r.tasks 4) from rfl) fun _ => .s (aL r.tasks 4 = (r.tasks.length : Int))
      (fun q1 => .rt 2 ⟨(hc.1 q1).symm, trivial⟩)
      (fun q1 => .y at5 fun _ => .s (aL r.tasks 5 = 1)
       (fun q2 => .s rest (fun q3 => .rt 3 ⟨(hc.2.1 q1 ⟨q2, q3⟩).symm, trivial⟩) (fun q3 => t11 q1 (fun z => q3 z.2)))
       (fun q2 => t11 q1 (fun z => q2 z.1))))) aB
structure RsJ (r : Run) (k : Nat) : Prop where
 le : k ≤ r.tasks.length
 ok : ∀ t ∈ r.tasks.take k, 1 ≤ t.state ∧ t.state ≤ 6
theorem RsJ.start (r : Run) : RsJ r 0 := ⟨Nat.zero_le _, fun t h => by simp at h⟩
theorem RsJ.next {r : Run} {k : Nat} {u : Task} (h : RsJ r k) (hu : r.tasks[k]? = some u) (ho : inB u.state 1 6 = true) : RsJ r (k + 1) := by
 obtain ⟨hk, rfl⟩ := gsi_.1 hu
 refine ⟨hk, fun t ht => ?_⟩
 rw [take_add_one, getElem?_eq_getElem hk] at ht
 rcases mem_append.1 ht with h1 | h1
 ·exact h.ok t h1
 simp at h1; subst h1; exact inB_iff.1 ho
theorem RsJ.all {r : Run} {k : Nat} (h : RsJ r k) (hk : ¬ (k : Int) < r.tasks.length) : ∀ t ∈ r.tasks, 1 ≤ t.state ∧ t.state ≤ 6 := by
 have := h.ok
 rwa [take_of_length_le aA] at this
theorem aE7 (r : Run) : Ct1 prog 290 [.S r] [.B (cU r)] :=
 .one (cU r) (rk := fun x => [.B x]) <| vc func290 (fun (hg : gin [Par.S r]) => let gr := hg.1.1
  .c func138 (InV r.id 1 9999) fun _ => .v (inB r.id 1 9999) (fun h => .rt false ⟨yR (fun z => pG h z.1), trivial⟩) (fun h1 =>
  .c func325 (kU r.plan) (hg := ⟨gr.2.1, trivial⟩) fun _ => .u (aG r.plan = 0) (fun h => .rt false ⟨yR (fun z => h z.2.1), trivial⟩) (fun h2 =>
  .u ((r.tasks.length : Int) = r.plan.tasks) (fun h => .rt false ⟨yR (fun z => h z.2.2), trivial⟩) (fun h3 => let hpt := (mI h2).1
  .l (Γ := Nat) (fun k => RsJ r k) (fun k => r.tasks.length - k) [1] [2] [0, 1] (fun k => [vI 3 k]) (fun _ => []) 0 (h := RsJ.start r) fun k hJ t => let hk0 := hJ.le
   .s ((k : Int) < r.tasks.length)
    (fun h => .x r.tasks k (h := by omega) fun u hu gu => .c func138 (InV u.state 1 6) fun _ => .v (inB u.state 1 6)
     (fun h4 => .rt false ⟨rk_st ⟨k, u, hu, pG h4⟩, trivial⟩)
     (fun h4 => .p k 1 (h := by unfold I64; omega) <| .n t (k + 1) [] (hJ.next hu h4) aA))
    (fun h => let hst := hJ.all h
     .l (Γ := Nat) (fun k => RkJ r k) (fun k => r.tasks.length - k) [1] [2] [0, 1] (fun k => [vI 4 k]) (fun _ => []) 0 (h := RkJ.start r) fun k hJ t => let hk0 := hJ.le
     .s ((k : Int) < r.tasks.length)
      (fun h => .ex (p := fun u => r.tasks[k]? = some u) ⟨_, getElem?_eq_getElem (show k < r.tasks.length by omega)⟩ fun u hu => .c func372 (TaskOk_s r k u hu h3 h2 (hst u (mem_of_getElem? hu))) (hg := ⟨gr, trivial⟩) fun _ => .v (pB (dU r (fD r (k : Int)) u))
       (fun h4 => .rt false ⟨aZ4 hu h4, trivial⟩)
       (fun h4 => .p k 1 (h := by unfold I64; omega) <| .n t (k + 1) [] (hJ.next hu h4) aA))
      (fun h => let hf := aG6 hJ h
       let fin : ∀ {b : Bool}, ((r.state = bH r.tasks ∧ ¬ r.state = 0) ↔ b = true) → b = cU r := fun hz => (aQ2 ⟨inB_iff.1 h1, h2, h3⟩ hf.1 hz).symm
       .c func373 (aV3 r hst aA) (hg := ⟨gr, trivial⟩) fun _ => .s (r.state = bH r.tasks)
       (fun q1 => .rt (!decide (r.state = 0)) ⟨fin (by simp only [Bool.not_eq_true', decide_eq_false_iff_not]; exact ⟨fun z => z.2, fun z => ⟨q1, z⟩⟩), trivial⟩)
       (fun q1 => .rt false ⟨fin (by simp only [Bool.false_eq_true, iff_false]; exact fun z => q1 z.1), trivial⟩))))))) aB
def aC1 (y : Yard) (j : Nat) : Prop := ∀ h : j < y.runs.length, cU y.runs[j] = true ∧ aD y y.runs[j].id = (j : Int) ∧ dY y.now y.runs[j] y.shelf.flatten = true
noncomputable def aI (y : Yard) : Bool := pB ((0 ≤ y.now ∧ y.now ≤ 999999980) ∧ (1 ≤ y.seq ∧ y.seq ≤ 1000000000) ∧ y.shelf.length = 4 ∧ y.runs.length ≤ 8 ∧ (∀ l ∈ y.shelf, cI l = true) ∧
 (∀ e ∈ y.shelf.flatten, 1 ≤ e.seq ∧ e.seq ≤ y.seq - 1) ∧ (y.shelf.flatten.map (·.seq)).Nodup ∧ (∀ j, j < y.runs.length → aC1 y j) ∧ cH y ≤ 40)
theorem vE {r : Run} (h : cU r = true) : (0 ≤ r.plan.wait ∧ r.plan.wait ≤ 20) ∧ r.tasks.length ≤ 12 := by
 have h1 := pB_iff.1 h
 have h2 := (oL h1.2.1).1
 have h3 := h1.2.2.1
 unfold aU at h2
 omega
theorem aK7 {α : Type} {p : α → Prop} {xs : List α} {k : Nat} (hk : k < xs.length) (h : ∀ x ∈ xs.take k, p x) (h1 : p xs[k]) : ∀ x ∈ xs.take (k + 1), p x := by
 intro x hx
 rw [take_succ_eq_append_getElem hk] at hx
 rcases mem_append.1 hx with hx | hx
 ·exact h x hx
 rw [mem_singleton] at hx; subst hx; exact h1
theorem wB {α β : Type} (f : α → β) {xs : List α} {k : Nat} (hk : k < xs.length) : (xs.take (k + 1)).map f = (xs.take k).map f ++ [f xs[k]] := by
 rw [take_succ_eq_append_getElem hk, map_append]; rfl
theorem nodup_map_step {xs : List Entry} {k : Nat} (hk : k < xs.length) (h : ((xs.take k).map (·.seq)).Nodup) (hn : xs[k].seq ∉ (xs.take k).map (·.seq)) : ((xs.take (k + 1)).map (·.seq)).Nodup := by
 rw [wB _ hk, nodup_append]
 exact ⟨h, by simp, fun a ha b hb => by simp at hb; subst hb; exact fun e => hn (e ▸ ha)⟩
theorem not_nodup_map {xs : List Entry} {k : Nat} (hk : k < xs.length) (hm : xs[k].seq ∈ (xs.take k).map (·.seq)) : ¬ (xs.map (·.seq)).Nodup := by
 intro h
 have h2 : ((xs.take (k + 1)).map (·.seq)).Nodup := h.sublist ((take_sublist _ _).map _)
 rw [wB _ hk, nodup_append] at h2
 exact h2.2.2 _ hm _ (by simp) rfl

structure YoH (y : Yard) : Prop where
 now : 0 ≤ y.now ∧ y.now ≤ 999999980
 seq : 1 ≤ y.seq ∧ y.seq ≤ 1000000000
 four : y.shelf.length = 4
 eight : y.runs.length ≤ 8
theorem yo_1 {y : Yard} (h : ¬ (0 ≤ y.now ∧ y.now ≤ 999999980)) : false = aI y := by unfold aI; rw [lB (fun z => h z.1)]
theorem yo_2 {y : Yard} (h : ¬ (1 ≤ y.seq ∧ y.seq ≤ 1000000000)) : false = aI y := by unfold aI; rw [lB (fun z => h z.2.1)]
theorem yo_3 {y : Yard} (h : ¬ (y.shelf.length : Int) = 4) : false = aI y := by unfold aI; rw [lB (fun z => h (by have := z.2.2.1; omega))]
theorem yo_4 {y : Yard} (h : (8 : Int) < y.runs.length) : false = aI y := by unfold aI; rw [lB (fun z => by have := z.2.2.2.1; omega)]
theorem yo_5 {y : Yard} {l : List Entry} (hl : l ∈ y.shelf) (h : cI l = false) : false = aI y := by unfold aI; rw [lB (fun z => by rw [z.2.2.2.2.1 l hl] at h; cases h)]
theorem yo_6 {y : Yard} {e : Entry} (he : e ∈ y.shelf.flatten) (h : inB e.seq 1 (y.seq - 1) = false) : false = aI y := by unfold aI; rw [lB (fun z => pG h (z.2.2.2.2.2.1 e he))]
theorem yo_7 {y : Yard} (h : ¬ (y.shelf.flatten.map (·.seq)).Nodup) : false = aI y := by unfold aI; rw [lB (fun z => h z.2.2.2.2.2.2.1)]
theorem aW3 {y : Yard} {k : Nat} {r : Run} (hr : y.runs[k]? = some r) (h : ¬ (cU r = true ∧ aD y r.id = (k : Int) ∧ dY y.now r y.shelf.flatten = true)) : false = aI y := by
 obtain ⟨hk, rfl⟩ := gsi_.1 hr
 unfold aI; rw [lB (fun z => h (z.2.2.2.2.2.2.2.1 k hk hk))]
structure YsJ (y : Yard) (k : Nat) : Prop where
 le : k ≤ y.shelf.length
 ok : ∀ l ∈ y.shelf.take k, cI l = true
theorem YsJ.start (y : Yard) : YsJ y 0 := ⟨Nat.zero_le _, fun l h => by simp at h⟩
theorem YsJ.next {y : Yard} {k : Nat} {l : List Entry} (h : YsJ y k) (hl : y.shelf[k]? = some l) (ho : cI l = true) : YsJ y (k + 1) := by
 obtain ⟨hk, rfl⟩ := gsi_.1 hl
 exact ⟨hk, aK7 hk h.ok ho⟩
theorem YsJ.all {y : Yard} {k : Nat} (h : YsJ y k) (hk : ¬ (k : Int) < y.shelf.length) : ∀ l ∈ y.shelf, cI l = true := by
 have := h.ok
 rwa [take_of_length_le aA] at this
structure YeJ (y : Yard) (k : Nat) : Prop where
 le : k ≤ y.shelf.flatten.length
 ok : ∀ e ∈ y.shelf.flatten.take k, 1 ≤ e.seq ∧ e.seq ≤ y.seq - 1
 nd : ((y.shelf.flatten.take k).map (·.seq)).Nodup
theorem YeJ.start (y : Yard) : YeJ y 0 := ⟨Nat.zero_le _, fun e h => by simp at h, by simp⟩
theorem YeJ.next {y : Yard} {k : Nat} {e : Entry} (h : YeJ y k) (he : y.shelf.flatten[k]? = some e) (h1 : inB e.seq 1 (y.seq - 1) = true) (h2 : e.seq ∉ (y.shelf.flatten.take k).map (·.seq)) : YeJ y (k + 1) := by
 obtain ⟨hk, rfl⟩ := gsi_.1 he
 exact ⟨hk, aK7 hk h.ok (inB_iff.1 h1), nodup_map_step hk h.nd h2⟩
theorem aX2 {y : Yard} {k : Nat} {e : Entry} (he : y.shelf.flatten[k]? = some e) (h2 : e.seq ∈ (y.shelf.flatten.take k).map (·.seq)) : ¬ (y.shelf.flatten.map (·.seq)).Nodup := by
 obtain ⟨hk, rfl⟩ := gsi_.1 he
 exact not_nodup_map hk h2
theorem aX1 {es : List Entry} {k : Nat} {e : Entry} (he : es[k]? = some e) : (es.take k).map (·.seq) ++ [e.seq] = (es.take (k + 1)).map (·.seq) := by
 obtain ⟨hk, rfl⟩ := gsi_.1 he
 rw [wB _ hk]
theorem YeJ.all {y : Yard} {k : Nat} (h : YeJ y k) (hk : ¬ (k : Int) < y.shelf.flatten.length) : (∀ e ∈ y.shelf.flatten, 1 ≤ e.seq ∧ e.seq ≤ y.seq - 1) ∧ (y.shelf.flatten.map (·.seq)).Nodup := by
 have h1 := h.ok
 have h2 := h.nd
 rw [take_of_length_le aA] at h1 h2
 exact ⟨h1, h2⟩
structure YrJ (y : Yard) (k : Nat) : Prop where
 le : k ≤ y.runs.length
 ok : ∀ j, j < k → aC1 y j
theorem YrJ.start (y : Yard) : YrJ y 0 := ⟨Nat.zero_le _, fun j h => by omega⟩
theorem YrJ.next {y : Yard} {k : Nat} {r : Run} (h : YrJ y k) (hr : y.runs[k]? = some r) (h1 : cU r = true) (h2 : aD y r.id = (k : Int)) (h3 : dY y.now r y.shelf.flatten = true) : YrJ y (k + 1) := by
 obtain ⟨hk, rfl⟩ := gsi_.1 hr
 refine ⟨hk, fun j hj => ?_⟩
 rcases Nat.lt_succ_iff_lt_or_eq.1 hj with h4 | rfl
 ·exact h.ok j h4
 exact fun _ => ⟨h1, h2, h3⟩
theorem aX0 {y : Yard} {k : Nat} (hH : YoH y) (h5 : ∀ l ∈ y.shelf, cI l = true) (h6 : (∀ e ∈ y.shelf.flatten, 1 ≤ e.seq ∧ e.seq ≤ y.seq - 1) ∧ (y.shelf.flatten.map (·.seq)).Nodup) (h : YrJ y k) (hk : ¬ (k : Int) < y.runs.length) : decide (cH y ≤ 40) = aI y := by
 unfold aI
 have h7 : ∀ j, j < y.runs.length → aC1 y j := fun j hj => h.ok j (by have := h.le; omega)
 by_cases h8 : cH y ≤ 40
 ·rw [tO ⟨hH.now, hH.seq, hH.four, hH.eight, h5, h6.1, h6.2, h7, h8⟩]; simpa using h8
 rw [lB (fun z => h8 z.2.2.2.2.2.2.2.2)]; simpa using h8
theorem aJ8 {y : Yard} {k : Nat} {e : Entry} (he : y.shelf.flatten[k]? = some e) : e ∈ y.shelf.flatten := mem_of_getElem? he
theorem iV (y : Yard) (hw : y.wt ≤ 1048576) : Ct1 prog 118 [.S y] [.B (aI y)] :=
 .one (aI y) (rk := fun x => [.B x]) <| vc func118 (fun (hg : gin [Par.S y]) => let gy := hg.1.1
  let hb := cV y hw
  .c func92 (cE y.now 0 999999980) fun _ => .v (inB y.now 0 999999980) (fun h => .rt false ⟨yo_1 (pG h), trivial⟩) (fun h1 =>
  .c func92 (cE y.seq 1 1000000000) fun _ => .v (inB y.seq 1 1000000000) (fun h => .rt false ⟨yo_2 (pG h), trivial⟩) (fun h2 =>
  .u ((y.shelf.length : Int) = 4) (fun h => .rt false ⟨yo_3 h, trivial⟩) (fun h3 =>
  .s ((8 : Int) < y.runs.length) (fun h => .rt false ⟨yo_4 h, trivial⟩) (fun h4 => let hH : YoH y := ⟨inB_iff.1 h1, inB_iff.1 h2, by omega, by omega⟩
  let hseq := inB_iff.1 h2
  .l (Γ := Nat) (fun k => YsJ y k) (fun k => y.shelf.length - k) [1, 34, 35] [2] [0, 1] (fun k => [vI 36 k]) (fun _ => []) 0 (h := YsJ.start y) fun k hJ t => let hk0 := hJ.le
   .s ((k : Int) < y.shelf.length)
    (fun h => .x y.shelf k (h := by omega) fun l hl gl => .c func228 (ShelfOk_i l) fun _ => .v (cI l)
     (fun h5 => .rt false ⟨yo_5 (mem_of_getElem? hl) h5, trivial⟩)
     (fun h5 => .p k 1 (h := by unfold I64; omega) <| .n t (k + 1) [] (hJ.next hl h5) aA))
    (fun h => let h5 := hJ.all h
     .c func229 (aA9 y hw) (hg := ⟨gy, trivial⟩) fun _ => .w Int 3 6 <|
     .l (Γ := Nat) (fun k => YeJ y k) (fun k => y.shelf.flatten.length - k) [1, 5, 46, 47] [2, 3] [0, 1] (fun k => [vR 6 4, vI 48 k]) (fun k => [oR 4 3 ((y.shelf.flatten.take k).map (·.seq))]) 0 (h := YeJ.start y) fun k hJ t => let hk0 := hJ.le
     .s ((k : Int) < y.shelf.flatten.length)
      (fun h => .x y.shelf.flatten k (h := by omega) fun e he ge => .m y.seq 1 (h := by unfold I64; omega) <| .c func92 (cE e.seq 1 (y.seq - 1)) fun _ => .v (inB e.seq 1 (y.seq - 1))
       (fun h6 => .rt false ⟨yo_6 (aJ8 he) h6, trivial⟩)
       (fun h6 => .c func230 (aW0 ((y.shelf.flatten.take k).map (·.seq)) e.seq (by rw [length_map, length_take]; omega)) fun _ => .s (e.seq ∈ (y.shelf.flatten.take k).map (·.seq))
        (fun h7 => .rt false ⟨yo_7 (aX2 he h7), trivial⟩)
        (fun h7 => .a ((y.shelf.flatten.take k).map (·.seq)) e.seq 8 (hy := (show Entry.ok e from ge).2.1) (h63 := by rw [length_map, length_take]; unfold maxLen; omega) (hby := by rw [length_map, length_take]; omega) <| .g 4 (aX1 he) <| .p k 1 (h := by unfold I64; omega) <| .n t (k + 1) [] (hJ.next he h6 h7) aA)))
      (fun h => let h6 := hJ.all h
       .l (Γ := Nat) (fun k => YrJ y k) (fun k => y.runs.length - k) [1, 5, 72, 73] [2, 3] [0, 1] (fun k => [vI 74 k]) (fun _ => []) 0 (h := YrJ.start y) fun k hJ t => let hk0 := hJ.le
       .s ((k : Int) < y.runs.length)
        (fun h => .x y.runs k (h := by omega) fun r hr gr => .c func231 (aV4 r) (hg := ⟨gr, trivial⟩) fun _ => .v (cU r)
         (fun h7 => .rt false ⟨aW3 hr (fun z => by rw [z.1] at h7; cases h7), trivial⟩)
         (fun h7 => .c func232 (gR y r.id hw) (hg := ⟨gy, trivial⟩) fun _ => .u (aD y r.id = (k : Int))
          (fun h8 => .rt false ⟨aW3 hr (fun z => h8 z.2.1), trivial⟩)
          (fun h8 => .c func233 (RunsOk_i y r y.shelf.flatten hH.now (vE h7).1 aA) (hg := ⟨gy, gr, trivial⟩) fun _ => .v (dY y.now r y.shelf.flatten)
           (fun h9 => .rt false ⟨aW3 hr (fun z => by rw [z.2.2] at h9; cases h9), trivial⟩)
           (fun h9 => .p k 1 (h := by unfold I64; omega) <| .n t (k + 1) [] (hJ.next hr h7 h8 h9) aA))))
        (fun h => .c func234 (aA7 y hw) (hg := ⟨gy, trivial⟩) fun _ => .rt (decide (cH y ≤ 40)) ⟨aX0 hH h5 h6 hJ h, trivial⟩)))))))) aB
noncomputable def qF (y : Yard) : Bool := pB (y.shelf.length = 4 ∧ (∀ l ∈ y.shelf, cI l = true) ∧ (∀ e ∈ y.shelf.flatten, 1 ≤ e.seq ∧ e.seq ≤ y.seq - 1) ∧ (y.shelf.flatten.map (·.seq)).Nodup)
theorem aP8 {y : Yard} (h : ¬ (y.shelf.length = 4 ∧ (∀ l ∈ y.shelf, cI l = true) ∧ (∀ e ∈ y.shelf.flatten, 1 ≤ e.seq ∧ e.seq ≤ y.seq - 1) ∧ (y.shelf.flatten.map (·.seq)).Nodup)) : false = qF y := (lB h).symm
structure YdJ (es : List Entry) (k j : Nat) (e : Entry) : Prop where
 le : j ≤ k
 no : e.seq ∉ (es.take j).map (·.seq)
theorem YdJ.start (es : List Entry) (k : Nat) (e : Entry) : YdJ es k 0 e := ⟨Nat.zero_le _, by simp⟩
theorem YdJ.next {es : List Entry} {k j : Nat} {e f : Entry} (h : YdJ es k j e) (hj : j < k) (hf : es[j]? = some f) (hn : ¬ f.seq = e.seq) : YdJ es k (j + 1) e := by
 refine ⟨hj, ?_⟩
 rw [← aX1 hf]
 intro hm
 rcases mem_append.1 hm with h1 | h1
 ·exact h.no h1
 simp at h1; exact hn h1.symm
theorem yd_hit {es : List Entry} {k j : Nat} {e f : Entry} (hj : j < k) (hf : es[j]? = some f) (hn : f.seq = e.seq) : e.seq ∈ (es.take k).map (·.seq) := by
 obtain ⟨hk, rfl⟩ := gsi_.1 hf
 rw [← hn]
 exact mem_map.2 ⟨_, tH hk hj, rfl⟩
theorem Shelves_s (y : Yard) (hsq : 1 ≤ y.seq ∧ y.seq ≤ 1000000000) (hw : y.wt ≤ 1048576) : Ct1 prog 289 [.S y] [.B (qF y)] :=
 .one (qF y) (rk := fun x => [.B x]) <| vc func289 (fun (hg : gin [Par.S y]) => let gy := hg.1.1
  let hb := cV y hw
  .u ((y.shelf.length : Int) = 4) (fun h => .rt false ⟨aP8 (fun z => h (by have := z.1; omega)), trivial⟩) (fun h3 =>
  .l (Γ := Nat) (fun k => YsJ y k) (fun k => y.shelf.length - k) [1] [2] [0, 1] (fun k => [vI 3 k]) (fun _ => []) 0 (h := YsJ.start y) fun k hJ t => let hk0 := hJ.le
   .s ((k : Int) < y.shelf.length)
    (fun h => .x y.shelf k (h := by omega) fun l hl gl => .c func371 (ShelfOk_s l) fun _ => .v (cI l)
     (fun h5 => .rt false ⟨aP8 (fun z => by rw [z.2.1 l (mem_of_getElem? hl)] at h5; cases h5), trivial⟩)
     (fun h5 => .p k 1 (h := by unfold I64; omega) <| .n t (k + 1) [] (hJ.next hl h5) aA))
    (fun h => let h5 := hJ.all h
     .c func292 (aA8 y hw) (hg := ⟨gy, trivial⟩) fun _ =>
     .l (Γ := Nat) (fun k => YeJ y k) (fun k => y.shelf.flatten.length - k) [1, 4] [2, 3] [0, 1] (fun k => [vI 5 k]) (fun k => []) 0 (h := YeJ.start y) fun k hJ t => let hk0 := hJ.le
     .s ((k : Int) < y.shelf.flatten.length)
      (fun h => .x y.shelf.flatten k (h := by omega) fun e he ge => .m y.seq 1 (h := by unfold I64; omega) <| .c func138 (InV e.seq 1 (y.seq - 1)) fun _ => .v (inB e.seq 1 (y.seq - 1))
       (fun h6 => .rt false ⟨aP8 (fun z => pG h6 (z.2.2.1 e (aJ8 he))), trivial⟩)
       (fun h6 => .l (Γ := Nat) (fun j => YdJ y.shelf.flatten k j e) (fun j => k - j) [1, 4, 5] [2, 3] [0, 1] (fun j => [vI 6 j]) (fun _ => []) 0 (h := YdJ.start _ k e) fun j hq t2 => let hj0 := hq.le
        .s ((j : Int) < (k : Int))
         (fun h7 => .x y.shelf.flatten j (h := by omega) fun f hf gf => .y he fun _ => .s (f.seq = e.seq)
          (fun h8 => .rt false ⟨aP8 (fun z => aX2 he (yd_hit aA hf h8) z.2.2.2), trivial⟩)
          (fun h8 => .p j 1 (h := by unfold I64; omega) <| .n t2 (j + 1) [] (hq.next aA hf h8) aA))
         (fun h7 => .p k 1 (h := by unfold I64; omega) <| .n t (k + 1) [] (hJ.next he h6 (by have := hq.no; rwa [show j = k by omega] at this)) aA)))
      (fun h => .rt true ⟨(tO ⟨by omega, h5, (hJ.all h).1, (hJ.all h).2⟩).symm, trivial⟩)))) aB
structure YqJ (y : Yard) (k : Nat) : Prop where
 le : k ≤ y.runs.length
 ok : ∀ j r, j < k → y.runs[j]? = some r → cU r = true ∧ aD y r.id = (j : Int)
theorem YqJ.start (y : Yard) : YqJ y 0 := ⟨Nat.zero_le _, fun j r h => by omega⟩
theorem YqJ.next {y : Yard} {k : Nat} {r : Run} (h : YqJ y k) (hr : y.runs[k]? = some r) (h1 : cU r = true) (h2 : aD y r.id = (k : Int)) : YqJ y (k + 1) := by
 refine ⟨(gsi_.1 hr).1, fun j q hj hq => ?_⟩
 rcases Nat.lt_succ_iff_lt_or_eq.1 hj with h4 | rfl
 ·exact h.ok j q h4 hq
 rw [hr] at hq; cases hq; exact ⟨h1, h2⟩
theorem YqJ.all {y : Yard} {k : Nat} (h : YqJ y k) (hk : ¬ (k : Int) < y.runs.length) {j : Nat} {r : Run} (hr : y.runs[j]? = some r) : cU r = true ∧ aD y r.id = (j : Int) :=
 h.ok j r (by have := (gsi_.1 hr).1; omega) hr
theorem iU (y : Yard) (hw : y.wt ≤ 1048576) : Ct1 prog 185 [.S y] [.B (aI y)] :=
 .one (aI y) (rk := fun x => [.B x]) <| vc func185 (fun (hg : gin [Par.S y]) => let gy := hg.1.1
  let hb := cV y hw
  .c func138 (InV y.now 0 999999980) fun _ => .v (inB y.now 0 999999980) (fun h => .rt false ⟨yo_1 (pG h), trivial⟩) (fun h1 =>
  .c func138 (InV y.seq 1 1000000000) fun _ => .v (inB y.seq 1 1000000000) (fun h => .rt false ⟨yo_2 (pG h), trivial⟩) (fun h2 =>
  .s ((8 : Int) < y.runs.length) (fun h => .rt false ⟨yo_4 h, trivial⟩) (fun h4 =>
  .c func289 (Shelves_s y (inB_iff.1 h2) hw) (hg := ⟨gy, trivial⟩) fun _ => .v (qF y) (fun h => .rt false ⟨by unfold aI; rw [lB (fun z => aZ8 h ⟨z.2.2.1, z.2.2.2.2.1, z.2.2.2.2.2.1, z.2.2.2.2.2.2.1⟩)], trivial⟩) (fun h3 => let hS := pB_iff.1 h3
  let hH : YoH y := ⟨inB_iff.1 h1, inB_iff.1 h2, hS.1, by omega⟩
  .l (Γ := Nat) (fun k => YqJ y k) (fun k => y.runs.length - k) [1] [2] [0, 1] (fun k => [vI 3 k]) (fun _ => []) 0 (h := YqJ.start y) fun k hJ t => let hk0 := hJ.le
   .s ((k : Int) < y.runs.length)
    (fun h => .x y.runs k (h := by omega) fun r hr gr => .c func290 (aE7 r) (hg := ⟨gr, trivial⟩) fun _ => .v (cU r)
     (fun h7 => .rt false ⟨aW3 hr (fun z => by rw [z.1] at h7; cases h7), trivial⟩)
     (fun h7 => .y hr fun _ => .c func291 (iK y r.id hw) (hg := ⟨gy, trivial⟩) fun _ => .u (aD y r.id = (k : Int))
      (fun h8 => .rt false ⟨aW3 hr (fun z => h8 z.2.1), trivial⟩)
      (fun h8 => .p k 1 (h := by unfold I64; omega) <| .n t (k + 1) [] (hJ.next hr h7 h8) aA)))
    (fun h => .c func292 (aA8 y hw) (hg := ⟨gy, trivial⟩) fun _ =>
     .l (Γ := Nat) (fun k => YrJ y k) (fun k => y.runs.length - k) [1, 4] [2, 3] [0, 1] (fun k => [vI 5 k]) (fun _ => []) 0 (h := YrJ.start y) fun k hq t => let hk0 := hq.le
     .s ((k : Int) < y.runs.length)
      (fun h6 => .x y.runs k (h := by omega) fun r hr gr => let hro := hJ.all h hr
       .c func293 (RunsOk_s y r y.shelf.flatten hH.now (vE hro.1).1 aA) (hg := ⟨gy, gr, trivial⟩) fun _ => .v (dY y.now r y.shelf.flatten)
       (fun h9 => .rt false ⟨aW3 hr (fun z => by rw [z.2.2] at h9; cases h9), trivial⟩)
       (fun h9 => .p k 1 (h := by unfold I64; omega) <| .n t (k + 1) [] (hq.next hr hro.1 hro.2 h9) aA))
      (fun h6 => .c func294 (aA6 y hw) (hg := ⟨gy, trivial⟩) fun _ => .rt (decide (cH y ≤ 40)) ⟨aX0 hH hS.2.1 ⟨hS.2.2.1, hS.2.2.2⟩ hq h6, trivial⟩))))))) aB
def aR5 (nm : ByteArray) : Bool := inB (nm.size : Int) 1 10
structure fileOkP (fs : List File) (k : Nat) (f : File) : Prop where
 name : aR5 f.name = true
 at_ : fAt fs f.name = (k : Int)
 data : (f.data.size : Int) ≤ 60000
 safe : inB f.safe 0 (f.data.size : Int) = true
structure diskP (d : Disk) : Prop where
 four : d.files.length ≤ 4
 ok : ∀ k f, d.files[k]? = some f → fileOkP d.files k f
noncomputable def jC (d : Disk) : Bool := pB (diskP d)
theorem diskOk_iff {d : Disk} : jC d = true ↔ diskP d := pB_iff
structure DkJ (d : Disk) (k : Nat) : Prop where
 le : k ≤ d.files.length
 four : d.files.length ≤ 4
 ok : ∀ j f, j < k → d.files[j]? = some f → fileOkP d.files j f
theorem DkJ.start {d : Disk} (h : ¬ (4 : Int) < d.files.length) : DkJ d 0 := ⟨Nat.zero_le _, by omega, fun j f h => by omega⟩
theorem DkJ.next {d : Disk} {k : Nat} {f : File} (h : DkJ d k) (hf : d.files[k]? = some f) (hok : fileOkP d.files k f) : DkJ d (k + 1) := by
 refine ⟨(gsi_.1 hf).1, h.four, fun j g hj hg => ?_⟩
 rcases Nat.lt_succ_iff_lt_or_eq.1 hj with h1 | rfl
 ·exact h.ok j g h1 hg
 rw [hf] at hg; cases hg; exact hok
theorem sI {d : Disk} (h : jC d = true) : d.files.length ≤ 4 := (diskOk_iff.1 h).four
/-! ### Writing -/
def wrK (d : Disk) (nm : ByteArray) : Nat := if fAt d.files nm < 0 then d.files.length else (fAt d.files nm).toNat
def wrB (d : Disk) (nm : ByteArray) : List File := if fAt d.files nm < 0 then d.files ++ [⟨nm, ⟨#[]⟩, 0⟩] else d.files
def catF (f : File) (more : ByteArray) : File := ⟨f.name, f.data ++ more, f.safe⟩
def wrD (d : Disk) (nm more : ByteArray) : Disk :=
 match (wrB d nm)[wrK d nm]? with
 | some f => ⟨(wrB d nm).set (wrK d nm) (catF f more)⟩
 | none => d
noncomputable def aB3 (d : Disk) (nm more : ByteArray) : Disk × Bool := if jC d = true ∧ jC (wrD d nm more) = true then (wrD d nm more, true) else (d, false)
/-! ### Syncing, cutting -/
def synF (f : File) : File := ⟨f.name, f.data, (f.data.size : Int)⟩
def synD (d : Disk) (nm : ByteArray) : Disk :=
 match d.files[(fAt d.files nm).toNat]? with
 | some f => ⟨d.files.set (fAt d.files nm).toNat (synF f)⟩
 | none => d
noncomputable def aO5 (d : Disk) (nm : ByteArray) : Disk × Bool := if ¬ fAt d.files nm < 0 ∧ jC d = true then (synD d nm, true) else (d, false)
def cutF (f : File) (n : Nat) : File := ⟨f.name, f.data.extract 0 n, (n : Int)⟩
def cutD (d : Disk) (nm : ByteArray) (n : Int) : Disk :=
 match d.files[(fAt d.files nm).toNat]? with
 | some f => ⟨d.files.set (fAt d.files nm).toNat (cutF f n.toNat)⟩
 | none => d
def datOf (d : Disk) (nm : ByteArray) : Int :=
 match d.files[(fAt d.files nm).toNat]? with
 | some f => (f.data.size : Int)
 | none => 0
noncomputable def uJ (d : Disk) (nm : ByteArray) (n : Int) : Disk × Bool := if ¬ fAt d.files nm < 0 ∧ jC d = true ∧ inB n 0 (datOf d nm) = true then (cutD d nm n, true) else (d, false)
/-! ### Moving -/
def mvF (f : File) (nm : ByteArray) : File := ⟨nm, f.data, f.safe⟩
def safeOf (d : Disk) (nm : ByteArray) : Int :=
 match d.files[(fAt d.files nm).toNat]? with
 | some f => f.safe
 | none => 0
def mvG (fs : List File) (k : Nat) (to : ByteArray) : Nat → List File
 | 0 => []
 | i + 1 => match fs[i]? with
  | some f => if f.name = to then mvG fs k to i else mvG fs k to i ++ [if i = k then mvF f to else f]
  | none => mvG fs k to i
theorem aR7 (fs : List File) (k : Nat) (to : ByteArray) : ∀ i, (mvG fs k to i).length ≤ i
 | 0 => Nat.le_refl _
 | i + 1 => by
  have ih := aR7 fs k to i
  show (match fs[i]? with | some f => _ | none => _ : List File).length ≤ _
  split
  ·split
   ·omega
   ·simp only [length_append, length_singleton]; omega
  ·omega
noncomputable def aR8 (d : Disk) (fr to : ByteArray) : Disk × Bool := if ¬ fAt d.files fr < 0 ∧ jC d = true ∧ ¬ fr = to ∧ aR5 to = true ∧ safeOf d fr = datOf d fr then (⟨mvG d.files (fAt d.files fr).toNat to d.files.length⟩, true) else (d, false)
theorem Co.one {P : Program} {F : FuncId} {ow : List Lr} {ag : Bool} {ps : List Par} {A : Type} {rk : A → List Rk} (a0 : A) (h : Co P F ow ag ps (fun a => a = a0) rk) : Co P F ow ag ps (fun _ : Unit => True) (fun _ => rk a0) :=
 ⟨fun w W0 cs r us rs hlv st hp => (h.run w W0 cs r us rs hlv st hp).mono fun e W hh => by
  obtain ⟨a, vs, rr, ha, hh⟩ := hh
  subst ha
  exact ⟨(), vs, rr, trivial, hh⟩⟩
theorem yW : lJ Edge := fun _ _ _ _ h => h.2.1
theorem yV : lJ Task := fun _ _ _ _ h => h.2.1
theorem cG {α : Type} {xs : List α} {k : Nat} {x : α} (h : xs[k]? = some x) : xs.take k ++ [x] = xs.take (k + 1) := by
 rw [take_add_one, h]; rfl
theorem iO {α : Type} {xs : List α} {k : Nat} (h : ¬ (k : Int) < xs.length) : xs.take k = xs := take_of_length_le aA
theorem eC (xs : List Entry) (hl : xs.length ≤ 1048576) : Ct1 prog 235 [.L xs] [.rw (inferInstance : Shape Entry) 243 xs] :=
 vc func235 (fun hg => .as (inferInstance : Shape Entry) dS [] xs 32 (by simp only [length_nil]; unfold maxLen; omega) (by simp only [length_nil]; omega) <| .rt () ⟨trivial, trivial⟩) aB
theorem xR (p : Plan) (hl : p.edges.length ≤ 1048576) : Ct1 prog 347 [.S p] [.S p] :=
 vc func347 (fun hg => .as (inferInstance : Shape Edge) yW [] p.edges 16 (by simp only [length_nil]; unfold maxLen; omega) (by simp only [length_nil]; omega) <| .rt () ⟨trivial, hg.1.1, trivial⟩) aB
theorem xQ (p : Plan) (hl : p.edges.length ≤ 1048576) : Ct1 prog 366 [.S p] [.S p] :=
 vc func366 (fun hg => .e Edge <| .as (inferInstance : Shape Edge) yW [] p.edges 16 (by simp only [length_nil]; unfold maxLen; omega) (by simp only [length_nil]; omega) <| .rt () ⟨trivial, hg.1.1, trivial⟩) aB
theorem sP (r : Run) (hl : r.plan.edges.length ≤ 1048576) (ht : r.tasks.length ≤ 1048576) : Ct1 prog 236 [.S r] [.S r] :=
 vc func236 (fun (hg : gin [Par.S r]) => .c func347 (xR r.plan hl) (hg := ⟨hg.1.1.2.1, trivial⟩) fun _ => .as (inferInstance : Shape Task) yV [] r.tasks 32 (by simp only [length_nil]; unfold maxLen; omega) (by simp only [length_nil]; omega) <| .rt () ⟨trivial, hg.1.1, trivial⟩) aB
theorem jS (r : Run) (hl : r.plan.edges.length ≤ 1048576) (ht : r.tasks.length ≤ 1048576) : Ct1 prog 288 [.S r] [.S r] :=
 vc func288 (fun (hg : gin [Par.S r]) => .c func366 (xQ r.plan hl) (hg := ⟨hg.1.1.2.1, trivial⟩) fun _ => .e Task <| .as (inferInstance : Shape Task) yV [] r.tasks 32 (by simp only [length_nil]; unfold maxLen; omega) (by simp only [length_nil]; omega) <| .rt () ⟨trivial, hg.1.1, trivial⟩) aB
theorem gC {y : Yard} {k : Nat} {l : List Entry} (h : y.shelf[k]? = some l) (hw : y.wt ≤ 1048576) : l.length ≤ 1048576 := by have := nQ h hw; omega
theorem dO (y : Yard) (hw : y.wt ≤ 1048576) : Ct1 prog 119 [.S y] [.S y] :=
 vc func119 (fun (hg : gin [Par.S y]) => let hb := cV y hw
  .wt 14 <| .r0 (inferInstance : Shape (List Entry)) 217 <| .l (Γ := Nat) (fun k => k ≤ y.shelf.length) (fun k => y.shelf.length - k) [1, 2, 3, 14, 15] [2, 3] [0, 1] (fun k => [vI 16 k]) (fun k => [oR 5 217 (y.shelf.take k), oB 4 [.v (I y.now), .v (I y.seq), .r 5, .v (.slice none 0 0)]]) 0 fun k hk t =>
   .s ((k : Int) < y.shelf.length)
    (fun h => .x y.shelf k (h := by omega) fun l hl gl => .c func235 (eC l (gC hl hw)) fun _ => .a (y.shelf.take k) l 24 (hy := trivial) (h63 := by rw [length_take]; unfold maxLen; omega) (hby := by rw [length_take]; omega) <| .g 5 (cG hl) <| .p k 1 (h := by unfold I64; omega) <| .n t (k + 1) [])
    (fun h => .g 5 (iO h) <| .r0 (inferInstance : Shape Run) 55 <| .l (Γ := Nat) (fun k => k ≤ y.runs.length) (fun k => y.runs.length - k) [1, 2, 3, 29, 30] [2, 3] [0, 1] (fun k => [vI 31 k]) (fun k => [oR 5 217 y.shelf, oR 6 55 (y.runs.take k), oB 4 [.v (I y.now), .v (I y.seq), .r 5, .r 6]]) 0 fun k hk t =>
     .s ((k : Int) < y.runs.length)
      (fun h2 => .x y.runs k (h := by omega) fun r hr gr => let hrl := fK hw hr
       .c func236 (sP r hrl.2.2 hrl.2.1) (hg := ⟨gr, trivial⟩) fun _ => .a (y.runs.take k) r 96 (hy := gr) (h63 := by rw [length_take]; unfold maxLen; omega) (hby := by rw [length_take]; omega) <| .g 6 (cG hr) <| .p k 1 (h := by unfold I64; omega) <| .n t (k + 1) [])
      (fun h2 => .g 6 (iO h2) <| .rt () ⟨trivial, hg.1.1, trivial⟩))) aB
theorem dN (y : Yard) (hw : y.wt ≤ 1048576) : Ct1 prog 184 [.S y] [.S y] :=
 vc func184 (fun (hg : gin [Par.S y]) => let hb := cV y hw
  .wt 4 <| .r0 (inferInstance : Shape (List Entry)) 217 <| .l (Γ := Nat) (fun k => k ≤ y.shelf.length) (fun k => y.shelf.length - k) [1, 2, 3] [2, 3] [0, 1] (fun k => [vI 4 k]) (fun k => [oR 5 217 (y.shelf.take k), oB 4 [.v (I y.now), .v (I y.seq), .r 5, .v (.slice none 0 0)]]) 0 fun k hk t =>
   .s ((k : Int) < y.shelf.length)
    (fun h => .x y.shelf k (h := by omega) fun l hl gl => let hll := gC hl hw
     .e Entry <| .as (inferInstance : Shape Entry) dS [] l 32 (by simp only [length_nil]; unfold maxLen; omega) (by simp only [length_nil]; omega) <| .a (y.shelf.take k) l 24 (hy := trivial) (h63 := by rw [length_take]; unfold maxLen; omega) (hby := by rw [length_take]; omega) <| .g 5 (cG hl) <| .p k 1 (h := by unfold I64; omega) <| .n t (k + 1) [])
    (fun h => .g 5 (iO h) <| .r0 (inferInstance : Shape Run) 55 <| .l (Γ := Nat) (fun k => k ≤ y.runs.length) (fun k => y.runs.length - k) [1, 2, 3] [2, 3] [0, 1] (fun k => [vI 5 k]) (fun k => [oR 5 217 y.shelf, oR 6 55 (y.runs.take k), oB 4 [.v (I y.now), .v (I y.seq), .r 5, .r 6]]) 0 fun k hk t =>
     .s ((k : Int) < y.runs.length)
      (fun h2 => .x y.runs k (h := by omega) fun r hr gr => let hrl := fK hw hr
       .c func288 (jS r hrl.2.2 hrl.2.1) (hg := ⟨gr, trivial⟩) fun _ => .a (y.runs.take k) r 96 (hy := gr) (h63 := by rw [length_take]; unfold maxLen; omega) (hby := by rw [length_take]; omega) <| .g 6 (cG hr) <| .p k 1 (h := by unfold I64; omega) <| .n t (k + 1) [])
      (fun h2 => .g 6 (iO h2) <| .rt () ⟨trivial, hg.1.1, trivial⟩))) aB
noncomputable def fR (y : Yard) (p : Plan) : Bool := decide ((y.runs.length : Int) < 8) && inB p.tasks 0 12 && decide (cH y + p.tasks ≤ 40) && decide (y.seq ≤ 999999000 - p.tasks)
theorem yN (y : Yard) : 0 ≤ cH y ∧ cH y ≤ 2 * (y.wt : Int) := by
 have h1 := yO y y.runs.length
 rw [take_length] at h1
 have h2 := Nat.le_trans (nG y y.shelf.flatten) (aD6 y)
 unfold cH; omega
noncomputable def aB7 (p : Plan) (k : Nat) : Task := ⟨if (aN p k).length = 0 then 2 else 1, (aN p k).length, 0, 0⟩
noncomputable def cF (p : Plan) (k : Nat) : List Task := (List.range k).map (aB7 p)
noncomputable def bC (id : Int) (p : Plan) : Run := ⟨id, p, 1, cF p p.tasks.toNat⟩
theorem uX {p : Plan} {k : Nat} (h : ((aN p k).length : Int) = 0) : cF p (k + 1) = cF p k ++ [⟨2, (aN p k).length, 0, 0⟩] := by
 unfold cF; rw [range_succ, map_append]; simp only [map_cons, map_nil, aB7]; rw [if_pos aA]
theorem uY {p : Plan} {k : Nat} (h : ¬ ((aN p k).length : Int) = 0) : cF p (k + 1) = cF p k ++ [⟨1, (aN p k).length, 0, 0⟩] := by
 unfold cF; rw [range_succ, map_append]; simp only [map_cons, map_nil, aB7]; rw [if_neg aA]
theorem gJ (p : Plan) (k : Nat) : (cF p k).length = k := by unfold cF; rw [length_map, length_range]
def zRun : Run := ⟨0, ⟨0, 0, 0, 0, []⟩, 0, []⟩
noncomputable def iT (id : Int) (p : Plan) : Bool := inB id 1 9999 && decide (aG p = 0)
noncomputable def vW (id : Int) (p : Plan) : Run := if iT id p = true then bC id p else zRun
theorem newR_f {id : Int} {p : Plan} (h : iT id p = false) : vW id p = zRun := by unfold vW; rw [h]; rfl
theorem bA3 {id : Int} {p : Plan} (h : iT id p = true) : vW id p = bC id p := by unfold vW; rw [if_pos h]
theorem aH4 {p : Plan} (h : aG p = 0) : 1 ≤ p.tasks ∧ p.tasks ≤ 12 ∧ p.edges.length ≤ 30 := by
 have := (oL h).1; unfold aU at this; omega
def mH (xs : List Entry) (e : Entry) : Nat := (pF (fun x => !cX x e) xs).getD xs.length
def iR (xs : List Entry) (e : Entry) : List Entry := xs.take (mH xs e) ++ e :: xs.drop (mH xs e)
theorem putIx_le (xs : List Entry) (e : Entry) : mH xs e ≤ xs.length := by
 unfold mH
 cases h : pF (fun x => !cX x e) xs with
 | none => exact Nat.le_refl _
 | some k => exact Nat.le_of_lt (aD5 h).1
theorem aH2 (xs : List Entry) (e : Entry) : (iR xs e).length = xs.length + 1 := by
 have := putIx_le xs e
 unfold iR
 rw [length_append, length_cons, length_take, length_drop]; omega
theorem aH1 {xs : List Entry} {e : Entry} {k : Nat} (hk : k ≤ xs.length) (ha : (xs.take k).any (fun x => !cX x e) = false) (he : k = xs.length ∨ ∃ h : k < xs.length, cX xs[k] e = false) : mH xs e = k := by
 unfold mH
 rcases he with rfl | ⟨h, he⟩
 ·rw [take_length] at ha
  rw [nN ha]; rfl
 rw [nM h ha (by simp [he])]; rfl


theorem aH7 {a b c : Nat} (h : c ≤ a ∧ c ≤ b) (h2 : c = a ∨ c = b) : Nat.min a b = c := by
 have : Nat.min a b = min a b := rfl
 omega
theorem aD2 {C : List Value} {o m j : Nat} {v : Value} (h : ((C.drop o).take m)[j]? = some v) : C[o + j]? = some v := by
 rw [getElem?_take] at h
 split at h
 ·rwa [getElem?_drop] at h
 cases h
theorem aR9 {W : World} {C : List Value} {xs : List Entry} {k m : Nat} (he : Elems W (C.take (xs.length * Shape.size Entry)) xs []) (hkm : k * 4 + m ≤ xs.length * 4 := by omega) : ∀ v ∈ (C.drop (k * 4)).take m, v.oneCell' = true := by
 intro v hv
 refine he.one v ?_
 obtain ⟨j, hj⟩ := mem_iff_getElem?.1 hv
 have hjm : j < m := by
  rw [getElem?_take] at hj
  split at hj
  ·assumption
  cases hj
 have := aD2 hj
 exact mem_iff_getElem?.2 ⟨k * 4 + j, by rw [getElem?_take, if_pos (by show _ < xs.length * 4; omega)]; exact this⟩
theorem overlaps_E {w0 W : World} {rs : List Res} {b b2 : Nat} {C C2 : List Value} {o2 n1 c1 n2 c2 : Nat} {i : Nat} (hst : St w0 W (Res.bx b C 243 :: rs)) (hi : rs[i]? = some (Res.bx b2 C2 243)) (hC : 0 < C2.length) :
  (callFunc 407 #[.slice (some ⟨b, 0, none⟩) n1 c1, .slice (some ⟨b2, o2, none⟩) n2 c2]).run prog W = .ok (.value (.bool false)) W := by
 have hB : W.heap[b]? = some (.cells C.toArray 243 (0, 0)) := hst.get 0 rfl
 have hB2 : W.heap[b2]? = some (.cells C2.toArray 243 (0, 0)) := hst.get (i + 1) (by simpa using hi)
 have hne : b ≠ b2 := by
  have hnd := hst.nodup
  rw [flatMap_cons, nodup_append] at hnd
  exact fun e => hnd.2.2 b (by simp [Res.bx]) b2 (mem_flatMap.2 ⟨_, mem_of_getElem? hi, by simp [Res.bx]⟩) e
 rw [run_callFunc_extern func407 aB aB aB (e := Extern.SlicesOverlaps.overlaps #[217, 217] #[4]) aB,
  Go.Lib.run_overlaps_apart W 217 4 243 underlying217 4 (fun w => eP sl_EntryS.size w) ⟨b, 0, none⟩ ⟨b2, o2, none⟩ n1 c1 n2 c2 hne 243 243 C.length C2.length
   (by simp [World.shape?, hB]) (by simp [World.shape?, hB2]) aA (by simp [World.frozen?, hB]) (by simp [World.frozen?, hB])]
 rfl

theorem InsertE {w W0 : World} {rs : List Res} {v : Value} {xs : List Entry} {lb : Nat} {y : Entry} (k : Nat) (hst : St w W0 (Res.row (α := Entry) 243 v xs [] :: Res.bx lb [I y.prio, I y.seq, I y.run, I y.task] 243 :: rs)) (hk : k ≤ xs.length) (hy : y.ok) (hxl : xs.length ≤ 1048576) :
  Calls prog 395 #[v, I (k : Int), .slice (some ⟨lb, 0, none⟩) 1 1] W0 fun e w' => ∃ v', e = .returned v' ∧ St w w' (Res.row (α := Entry) 243 v' (xs.take k ++ y :: xs.drop k) [] :: rs) := by
 refine bC2 func395 rfl ntmps395 dE (wp_seq (aC (sg (aW (v := .slice none 0 0) rfl (aF (wp_seq (aC (sg (bB (v := v) rfl (sg (bB (v := I (k : Int)) rfl (sg (stp_slice_l (l := k) sl_EntryS rfl (eG (hst.get 0 rfl)) rfl rfl aA ?_))))))))))))); intro v5 g6 h7 hm8
 refine aF (wp_seq (aC (rn hst 3 Ag.nil.put.put.put.put.put.put.put [] [(7, I 1)] [.l (.slice (some ⟨lb, 0, none⟩) 1 1) 1 ⟨_, _, rfl⟩] aB fun f10 h10_ => (aF (wp_seq (wp_seq (aC (sg (bB (h10_.at 7) (sg (aP5 rfl rfl (aF (fX rfl (fun h13p => ?_) (fun h13p => ?_))))))))))))))
 ·exact absurd h13p dE
 refine wp_skip (wp_seq (aC (rn hst 3 h10_.put.put [] [(8, I (xs.length : Int))] [ql (eG (hst.get 0 rfl))] aB fun f15 h15_ => (aF (wp_seq (wp_seq (aC (rn hst 3 h15_ [] [(22, .bool (decide ((k : Int) = (xs.length : Int))))] [.o] aB fun f17 h17_ => (aF (fX (h17_.at 22) (fun h18p => ?_) (fun h18p => ?_)))))))))))
 ·refine wp_seq (aC (sg (bB (h17_.at 0) (sg (bB (h17_.at 2) ?_)))))
  have st21 := hst.f1
  refine sg (iF (ys := [(⟨y.prio, y.seq, y.run, y.task⟩ : Entry)]) fL rfl rfl rfl st21.f1 (Elems.one1 ⟨rfl, rfl, hy⟩) (by unfold maxLen; omega) aA ?_); intro v23 W24 st25
  refine sg (aW (v := v23) rfl (aF (wr (vN results395 rfl ?_))))
  have hke : k = xs.length := by omega
  subst hke
  refine ⟨_, rfl, ?_⟩
  rw [take_length, drop_length]
  exact st25
 refine wp_skip (wp_seq (wp_seq (aC (rn hst 4 h17_ [] [(28, I ((xs.length : Int) + 1)), (29, v)] [qad (xs.length : Int) 1] aB fun f30 h30_ => ?_))))
 have hq_ := St.rowOpen hst aA
 obtain ⟨bg, cp, Cg, hvv, hcap, hmx, hCl, hel, st31⟩ := hq_
 have hCl4 : Cg.length = cp * 4 := hCl
 subst hvv
 refine sg (stp_xcap sl_EntryS (h30_.at 29) (sg (aP4 (h30_.at 28) rfl (aF (fX rfl (fun h34p => ?_) (fun h34p => ?_))))))
 ·refine wp_seq (aC (sg (bB (h30_.at 0) (sg (bB (h30_.at 1) (sg (rW (h := k) sl_EntryS rfl rfl aA aA aA (lw h30_.put.put.put.put.put [(0, .slice (some ⟨bg, 0, none⟩) xs.length cp), (1, I (k : Int)), (2, .slice (some ⟨lb, 0, none⟩) 1 1), (7, I 1), (8, I (xs.length : Int)), (34, .slice (some ⟨bg, 0, none⟩) k cp)] aB fun h39_ => (rn st31 5 h39_ [] [(39, I (((xs.length : Int) + 1) - (k : Int)))] [qad (xs.length : Int) 1, qsb ((xs.length : Int) + 1) (k : Int)] aB fun f38 h38_ => (sg (stp_appz (α := Entry) (k0 := xs.length + 1 - k) (n1 := xs.length + 1) fL underlying3 (h38_.at 34) (h38_.at 39) aA aA st31 (by rw [hCl]; exact Nat.mul_le_mul_right _ aA) aA aA (by unfold maxLen; omega) aA ?_))))))))))); intro b40 cp2 Z2 W41 hcp2 hmx2 hZl hb2 st42
  have hZl4 : Z2.length = (cp2 - k) * 4 := hZl
  refine sg (aW (v := .slice (some ⟨b40, 0, none⟩) (xs.length + 1) cp2) rfl (aF (wp_seq (aC (sg (bB (v := .slice (some ⟨b40, 0, none⟩) (xs.length + 1) cp2) rfl (sg (bB (h38_.at 1) (sg (lN (l := k) sl_EntryS rfl rfl aA aA aA (sg (bB (h38_.at 2) ?_))))))))))))
  refine sg (nC (α := Entry) (C := (Cg.take (k * Shape.size Entry) ++ Z2)) (cs := [I y.prio, I y.seq, I y.run, I y.task]) sl_EntryS rfl rfl (by rw [show Nat.min 1 ((xs.length + 1) - k) = 1 from Nat.min_eq_left aA]; rfl) (fun j v hj => (by rw [Addr.add_mid]; exact aT (st42.get 2 rfl) j v hj)) (by intro v hv; simp only [mem_cons, not_mem_nil, or_false] at hv; rcases hv with rfl | rfl | rfl | rfl <;> rfl) st42 (by simp only [length_cons, length_nil, length_append, length_take, cY, show Shape.size Entry = 4 from rfl]; omega) ?_); intro _ W50 st51
  refine aF (wp_seq (kJ 8 [] [(true, .is (.slice (some ⟨b40, 0, none⟩) (xs.length + 1) cp2)), (true, .is (I (k : Int))), (true, .is (I 1)), (true, .is (I ((k : Int) + 1))), (true, .is (.slice (some ⟨b40, 0 + (k + 1) * 4, none⟩) ((xs.length + 1) - (k + 1)) (cp2 - (k + 1)))), (true, .is (.slice (some ⟨bg, 0, none⟩) xs.length cp)), (true, .is (I (k : Int))), (true, .is (.slice (some ⟨bg, 0 + k * 4, none⟩) (xs.length - k) (cp - k)))] mix aB aB aB aB (rs0 := []) rfl st51 (Below.refl _ _) ⟨(mq_ (show _ = (.slice (some ⟨b40, 0, none⟩) (xs.length + 1) cp2 : Value) from rfl)), (mq_ (h38_.at 1)), (mq_ (h38_.at 7)), (fun f W hst hbl hd hf => jI (hd 1 47 rfl rfl) (hd 2 48 rfl rfl) aM2 brq), (fun f W hst hbl hd hf => lN (l := k + 1) sl_EntryS (hd 0 46 rfl rfl) (hd 3 49 rfl rfl) aA aA aA brq), (mq_ (h38_.at 0)), (mq_ (h38_.at 1)), (fun f W hst hbl hd hf => lN (l := k) sl_EntryS (hd 5 51 rfl rfl) (hd 6 52 rfl rfl) aA aA aA brq), trivial⟩ ?_))
  intro f52 W53 rs_ hAL_ st56 hbl57 hv54 hf55
  have hn_ : rs_ = [] := hAL_
  subst hn_
  try simp only [cap_, sB] at st56
  refine sg (nC (α := Entry) (C := (aJ (Cg.take (k * Shape.size Entry) ++ Z2) (0 + k * 4) [I y.prio, I y.seq, I y.run, I y.task])) (cs := ((Cg.drop (k * 4)).take ((xs.length - k) * 4))) sl_EntryS (hv54 4 50 dE rfl) (hv54 7 53 dE rfl) (by rw [show Nat.min (xs.length - k) ((xs.length + 1) - (k + 1)) = xs.length - k from aH7 aA aA]; rw [length_take, length_drop, hCl4, show Shape.size Entry = 4 from rfl]; omega) (fun j v hj => (by rw [Addr.add_mid, Nat.add_assoc]; exact aT (st56.get 1 rfl) _ v (aD2 hj))) (aR9 hel) st56 (by simp only [length_append, length_take, length_drop, cY, show Shape.size Entry = 4 from rfl]; omega) ?_); intro _ W59 st60
  refine aF (wp_seq (aC (sg (bB (v := .slice (some ⟨b40, 0, none⟩) (xs.length + 1) cp2) ((hf55 9 rfl).trans (show _ = (.slice (some ⟨b40, 0, none⟩) (xs.length + 1) cp2 : Value) from rfl)) (sg (aW (v := .slice (some ⟨b40, 0, none⟩) (xs.length + 1) cp2) rfl (aF (wr (vN results395 rfl ?_)))))))))
  have hel_ : Elems _ (Cg.take (xs.length * 4)) xs [] := hel
  have hYe : Elems W59 [I y.prio, I y.seq, I y.run, I y.task] [y] [] := Elems.one1 ⟨rfl, rfl, hy⟩
  have hq_ := ins_new (D := Cg.take (k * 4) ++ Z2) (a := k * 4) (Y := [I y.prio, I y.seq, I y.run, I y.task]) (M := (Cg.drop (k * 4)).take ((xs.length - k) * 4)) rfl (by simp only [length_append, length_take, length_drop, length_cons, length_nil, cY, show Shape.size Entry = 4 from rfl]; omega)
  obtain ⟨T, hT⟩ := hq_
  rw [take_append_of_le_length (by rw [length_take]; omega), take_take, Nat.min_self] at hT
  have hfin := zI (W := _) (W' := W59) (y := y) (k := k) aA (hel_) aA hYe hT
  have hCe : (aJ (aJ (Cg.take (k * Shape.size Entry) ++ Z2) (0 + k * 4) [I y.prio, I y.seq, I y.run, I y.task]) (0 + (k + 1) * 4) ((Cg.drop (k * 4)).take ((xs.length - k) * 4))) = aJ (aJ (Cg.take (k * 4) ++ Z2) (k * 4) [I y.prio, I y.seq, I y.run, I y.task]) (k * 4 + 4) ((Cg.drop (k * 4)).take ((xs.length - k) * 4)) := by simp only [Nat.zero_add, Nat.add_mul, Nat.one_mul, show Shape.size Entry = 4 from rfl]
  have stz : St w W59 (Res.bx b40 (aJ (aJ (Cg.take (k * Shape.size Entry) ++ Z2) (0 + k * 4) [I y.prio, I y.seq, I y.run, I y.task]) (0 + (k + 1) * 4) ((Cg.drop (k * 4)).take ((xs.length - k) * 4))) 243 :: _) := st60
  rw [hCe] at stz
  have hl4 : (aJ (aJ (Cg.take (k * 4) ++ Z2) (k * 4) [I y.prio, I y.seq, I y.run, I y.task]) (k * 4 + 4) ((Cg.drop (k * 4)).take ((xs.length - k) * 4))).length = cp2 * Shape.size Entry := by rw [← hCe]; simp only [length_append, length_take, length_drop, cY, show Shape.size Entry = 4 from rfl]; omega
  have stf := St.rowShut (α := Entry) (xs := xs.take k ++ y :: xs.drop k) (m := xs.length + 1) (cap := cp2) stz (by rw [length_append, length_cons, length_take, length_drop]; omega) aA aA hl4 hfin
  exact ⟨_, rfl, stf.d1.d1⟩
 refine wp_skip (wp_seq (aC (lw h30_.put.put [(0, .slice (some ⟨bg, 0, none⟩) xs.length cp), (1, I (k : Int)), (2, .slice (some ⟨lb, 0, none⟩) 1 1), (7, I 1), (8, I (xs.length : Int))] aB fun h65_ => (rn st31 4 h65_ [] [(56, .slice (some ⟨bg, 0, none⟩) xs.length cp), (59, I ((xs.length : Int) + 1))] [qad (xs.length : Int) 1] aB fun f64 h64_ => (sg (rW (h := (xs.length) + 1) sl_EntryS (h64_.at 56) (h64_.at 59) aA aA aA (sg (aW (v := .slice (some ⟨bg, 0, none⟩) ((xs.length) + 1) cp) rfl (aF (wp_seq (wp_seq (aC (rn st31 5 h64_.put.put [] [(61, .slice (some ⟨lb, 0, none⟩) 1 1), (62, .slice (some ⟨bg, 0, none⟩) ((xs.length) + 1) cp), (65, I ((k : Int) + 1))] [qad (k : Int) 1] aB fun f69 h69_ => ?_)))))))))))))
 refine sg (lN (l := k + 1) sl_EntryS (h69_.at 62) (h69_.at 65) aA aA aA (sg (stp_callx (h69_.at 61) rfl (overlaps_E st31.f1 (i := 0) rfl aA) (sg (tW rfl (aF (sx_t rfl rfl (wp_seq (kJ 8 [] [(true, .is (.slice (some ⟨bg, 0, none⟩) ((xs.length) + 1) cp)), (true, .is (I (k : Int))), (true, .is (I 1)), (true, .is (I ((k : Int) + 1))), (true, .is (.slice (some ⟨bg, 0 + (k + 1) * 4, none⟩) (((xs.length) + 1) - (k + 1)) (cp - (k + 1)))), (true, .is (.slice (some ⟨bg, 0, none⟩) ((xs.length) + 1) cp)), (true, .is (I (k : Int))), (true, .is (.slice (some ⟨bg, 0 + k * 4, none⟩) (((xs.length) + 1) - k) (cp - k)))] mix aB aB aB aB (rs0 := []) rfl st31.f1 (Below.refl _ _) ⟨(mq_ (h69_.at 0)), (mq_ (h69_.at 1)), (mq_ (h69_.at 7)), (fun f W hst hbl hd hf => jI (hd 1 70 rfl rfl) (hd 2 71 rfl rfl) aM2 brq), (fun f W hst hbl hd hf => lN (l := k + 1) sl_EntryS (hd 0 69 rfl rfl) (hd 3 72 rfl rfl) aA aA aA brq), (mq_ (h69_.at 0)), (mq_ (h69_.at 1)), (fun f W hst hbl hd hf => lN (l := k) sl_EntryS (hd 5 74 rfl rfl) (hd 6 75 rfl rfl) aA aA aA brq), trivial⟩ ?_)))))))))
 intro f74 W75 rs_ hAL_ st78 hbl79 hv76 hf77
 have hn_ : rs_ = [] := hAL_
 subst hn_
 try simp only [cap_, sB] at st78
 have st81 := st78.f1
 refine sg (nC (α := Entry) (C := Cg) (cs := ((Cg.drop (k * 4)).take ((xs.length - k) * 4))) sl_EntryS (hv76 4 73 dE rfl) (hv76 7 76 dE rfl) (by rw [show Nat.min (((xs.length) + 1) - k) (((xs.length) + 1) - (k + 1)) = xs.length - k from aH7 aA aA]; rw [length_take, length_drop, hCl4, show Shape.size Entry = 4 from rfl]; omega) (fun j v hj => (by rw [Addr.add_mid, Nat.add_assoc]; exact aT (st81.get 0 rfl) _ v (aD2 hj))) (aR9 hel) st81 (by simp only [length_append, length_take, length_drop, cY, show Shape.size Entry = 4 from rfl]; omega) ?_); intro _ W82 st83
 refine aF (wp_seq (aC (sg (bB (v := .slice (some ⟨bg, 0, none⟩) ((xs.length) + 1) cp) ((hf77 0 rfl).trans (h69_.at 0)) (sg (bB (v := I (k : Int)) ((hf77 1 rfl).trans (h69_.at 1)) (sg (lN (l := k) sl_EntryS rfl rfl aA aA aA (sg (bB (v := .slice (some ⟨lb, 0, none⟩) 1 1) ((hf77 2 rfl).trans (h69_.at 2)) ?_))))))))))
 refine sg (nC (α := Entry) (C := (aJ Cg (0 + (k + 1) * 4) ((Cg.drop (k * 4)).take ((xs.length - k) * 4)))) (cs := [I y.prio, I y.seq, I y.run, I y.task]) sl_EntryS rfl rfl (by rw [show Nat.min 1 (((xs.length) + 1) - k) = 1 from Nat.min_eq_left aA]; rfl) (fun j v hj => (by rw [Addr.add_mid]; exact aT (st83.get 1 rfl) j v hj)) (by intro v hv; simp only [mem_cons, not_mem_nil, or_false] at hv; rcases hv with rfl | rfl | rfl | rfl <;> rfl) st83 (by simp only [length_cons, length_nil, length_append, length_take, cY, show Shape.size Entry = 4 from rfl]; omega) ?_); intro _ W88 st89
 refine aF (wp_seq (aC (sg (bB (v := .slice (some ⟨bg, 0, none⟩) ((xs.length) + 1) cp) ((hf77 0 rfl).trans (h69_.at 0)) (sg (aW (v := .slice (some ⟨bg, 0, none⟩) ((xs.length) + 1) cp) rfl (aF (wr (vN results395 rfl ?_)))))))))
 have hel_ : Elems _ (Cg.take (xs.length * 4)) xs [] := hel
 have hYe : Elems W88 [I y.prio, I y.seq, I y.run, I y.task] [y] [] := Elems.one1 ⟨rfl, rfl, hy⟩
 have hq_ := ins_in (D := Cg) (a := k * 4) (Y := [I y.prio, I y.seq, I y.run, I y.task]) (M := (Cg.drop (k * 4)).take ((xs.length - k) * 4)) rfl (by simp only [length_append, length_take, length_drop, length_cons, length_nil, cY, show Shape.size Entry = 4 from rfl]; omega)
 obtain ⟨T, hT⟩ := hq_
 have hfin := zI (W := _) (W' := W88) (y := y) (k := k) aA (hel_) aA hYe hT
 have hCe : (aJ (aJ Cg (0 + (k + 1) * 4) ((Cg.drop (k * 4)).take ((xs.length - k) * 4))) (0 + k * 4) [I y.prio, I y.seq, I y.run, I y.task]) = aJ (aJ Cg (k * 4 + 4) ((Cg.drop (k * 4)).take ((xs.length - k) * 4))) (k * 4) [I y.prio, I y.seq, I y.run, I y.task] := by simp only [Nat.zero_add, Nat.add_mul, Nat.one_mul]
 have stz : St w W88 (Res.bx bg (aJ (aJ Cg (0 + (k + 1) * 4) ((Cg.drop (k * 4)).take ((xs.length - k) * 4))) (0 + k * 4) [I y.prio, I y.seq, I y.run, I y.task]) 243 :: _) := st89
 rw [hCe] at stz
 have hl4 : (aJ (aJ Cg (k * 4 + 4) ((Cg.drop (k * 4)).take ((xs.length - k) * 4))) (k * 4) [I y.prio, I y.seq, I y.run, I y.task]).length = cp * Shape.size Entry := by rw [← hCe]; simp only [length_append, length_take, length_drop, cY, show Shape.size Entry = 4 from rfl]; omega
 have stf := St.rowShut (α := Entry) (xs := xs.take k ++ y :: xs.drop k) (m := xs.length + 1) (cap := cp) stz (by rw [length_append, length_cons, length_take, length_drop]; omega) aA aA hl4 hfin
 exact ⟨_, rfl, stf.d1⟩
def eU (sh : Nat) (prio rid : Int) : List Int → List (List Entry) → Int → List (List Entry)
 | [], xss, _ => xss
 | t :: ts, xss, seq => eU sh prio rid ts (xss.set sh (iR (xss.getD sh []) ⟨prio, seq, rid, t⟩)) (seq + 1)
theorem sX (sh : Nat) (prio rid t : Int) : ∀ (ts : List Int) (xss : List (List Entry)) (seq : Int), eU sh prio rid (ts ++ [t]) xss seq = (eU sh prio rid ts xss seq).set sh (iR ((eU sh prio rid ts xss seq).getD sh []) ⟨prio, seq + ts.length, rid, t⟩)
 | [], xss, seq => by simp [eU]
 | u :: ts, xss, seq => by
  have h := sX sh prio rid t ts (xss.set sh (iR (xss.getD sh []) ⟨prio, seq, rid, u⟩)) (seq + 1)
  simp only [cons_append, eU]
  rw [h, show seq + 1 + (ts.length : Int) = seq + ((u :: ts).length : Int) by simp; omega]
theorem jX (sh : Nat) (prio rid : Int) : ∀ (ts : List Int) (xss : List (List Entry)) (seq : Int), (eU sh prio rid ts xss seq).length = xss.length
 | [], xss, seq => rfl
 | u :: ts, xss, seq => by simp only [eU]; rw [jX]; simp
theorem jY (sh : Nat) (prio rid : Int) : ∀ (ts : List Int) (xss : List (List Entry)) (seq : Int), sh < xss.length → ((eU sh prio rid ts xss seq).getD sh []).length = (xss.getD sh []).length + ts.length
 | [], xss, seq, h => rfl
 | u :: ts, xss, seq, h => by
  simp only [eU]
  rw [jY sh prio rid ts _ _ (by simpa using h)]
  rw [getD_eq_getElem?_getD, getElem?_set_self h]
  simp [aH2]
  omega
theorem getD_some {α : Type} {xss : List (List α)} {k : Nat} (h : k < xss.length) : xss[k]? = some (xss.getD k []) := by
 rw [getD_eq_getElem?_getD, getElem?_eq_getElem h]; rfl

def dD (r r' : Run) : List Int := (aK r'.tasks 2).filter (fun t => !decide (t ∈ aK r.tasks 2))
theorem kN (r r' : Run) : (dD r r').length ≤ r'.tasks.length := Nat.le_trans (length_filter_le _ _) (eZ _ _ _)
def cC (y : Yard) (k : Nat) (r r' : Run) : Yard := ⟨y.now, y.seq + ((dD r r').length : Int), eU (aO r'.id).toNat r'.plan.prio r'.id (dD r r') y.shelf y.seq, y.runs.set k r'⟩
def gV (out : Yard) (k i : Nat) : Yard := match out.runs[k]? with
 | none => out
 | some r => match r.tasks[i]? with
  | none => out
  | some t => if t.state = 3 then cC out k r (bI r i) else out
def mG (y : Yard) (k : Nat) : Nat → Yard
 | 0 => y
 | i + 1 => gV (mG y k i) k i
def rT (y : Yard) (k : Nat) : Nat := match y.runs[k]? with | some r => r.tasks.length | none => 0
def jE (y : Yard) : Nat → Yard
 | 0 => y
 | k + 1 => mG (jE y k) k (rT y k)
noncomputable def cJ (y : Yard) : Yard := if aI y then jE y y.runs.length else y
theorem rS {y : Yard} {k : Nat} {r : Run} (h : y.runs[k]? = some r) : rT y k = r.tasks.length := by unfold rT; rw [h]

structure YardIs (y : Yard) : Prop where
 now : 0 ≤ y.now ∧ y.now ≤ 999999980
 seq : 1 ≤ y.seq ∧ y.seq ≤ 1000000000
 shelf : y.shelf.length = 4
 runs : y.runs.length ≤ 8
 each : ∀ l ∈ y.shelf, cI l = true
 run : ∀ (j : Nat) (r : Run), y.runs[j]? = some r → RunIs r ∧ bF y r.id = some j
theorem fW {y : Yard} (h : aI y = true) : YardIs y := by
 unfold aI at h
 rw [pB_iff] at h
 obtain ⟨h1, h2, h3, h4, h5, h6, h7, h8, h9⟩ := h
 refine ⟨h1, h2, h3, h4, h5, fun j r hj => ?_⟩
 obtain ⟨hl, rfl⟩ := gsi_.1 hj
 obtain ⟨a, b, _⟩ := h8 j hl hl
 refine ⟨runIs.1 a, ?_⟩
 unfold aD at b
 cases hq : bF y y.runs[j].id with
 | none => rw [hq] at b; simp only [ixI] at b; omega
 | some k => rw [hq] at b; simp only [ixI] at b; congr 1; omega
theorem RunIs.small {r : Run} (h : RunIs r) : r.ok ∧ r.tasks.length ≤ 12 ∧ r.plan.edges.length ≤ 30 := by
 have h2 := (oL h.plan).1
 have hl := h.len
 have hs := h.state
 have hid := h.id
 unfold aU at h2
 have hst : 0 ≤ bH r.tasks ∧ bH r.tasks ≤ 4 := by
  unfold bH
  split
  ·omega
  split
  ·omega
  split
  ·omega
  split <;> omega
 refine ⟨⟨by unfold I64; omega, ?_, by unfold I64; omega⟩, by omega, by omega⟩
 unfold Plan.ok
 refine ⟨?_, ?_, ?_, ?_⟩ <;> (unfold I64; omega)
theorem kK {xs : List Entry} (h : cI xs = true) : xs.length ≤ 80 := by
 unfold cI at h
 first | exact (pB_iff.1 h).1 | exact (pB_iff.1 h).2 | (simp at h; omega)
theorem zG {α β : Type} {p : α → Bool} {q : β → Bool} : ∀ {xs : List α} {ys : List β}, xs.length = ys.length → (∀ (j : Nat) (x : α) (y : β), xs[j]? = some x → ys[j]? = some y → p x = q y) → pF p xs = pF q ys
 | [], [], _, _ => rfl
 | x :: xs, y :: ys, hl, h => by
  have h0 := h 0 x y rfl rfl
  have ih := zG (xs := xs) (ys := ys) (by simpa using hl) (fun j a b ha hb => h (j + 1) a b (by simpa using ha) (by simpa using hb))
  unfold pF
  rw [h0, ih]
 | [], _ :: _, hl, _ => by simp at hl
 | _ :: _, [], hl, _ => by simp at hl
structure RI (y out : Yard) (n : Nat) : Prop where
 now : out.now = y.now
 seq : y.seq ≤ out.seq ∧ out.seq ≤ y.seq + 12 * (n : Int)
 shelf : out.shelf.length = y.shelf.length
 each : ∀ s, s < 4 → (out.shelf.getD s []).length ≤ 80 + 12 * n
 runs : out.runs.length = y.runs.length
 run : ∀ (j : Nat) (r : Run), y.runs[j]? = some r → ∃ r2 : Run, out.runs[j]? = some r2 ∧ RunIs r2 ∧ r2.id = r.id ∧ r2.tasks.length = r.tasks.length ∧ ∀ (i : Nat) (t : Task), r.tasks[i]? = some t → ∃ t2, r2.tasks[i]? = some t2 ∧ t2.try_ = t.try_
theorem RI.start {y : Yard} (h : YardIs y) : RI y y 0 := by
 refine ⟨rfl, by omega, rfl, fun s hs => ?_, rfl, fun j r hj => ⟨r, hj, (h.run j r hj).1, rfl, rfl, fun i t ht => ⟨t, ht, rfl⟩⟩⟩
 have hl := h.shelf
 rw [getD_eq_getElem?_getD, getElem?_eq_getElem aA]
 have := kK (h.each y.shelf[s] (getElem_mem _))
 simpa using this
theorem RI.mono {y out : Yard} {n m : Nat} (h : RI y out n) (hm : n ≤ m) : RI y out m :=
 ⟨h.now, by have := h.seq; omega, h.shelf, fun s hs => by have := h.each s hs; omega, h.runs, h.run⟩
theorem jJ (sh : Nat) (prio rid : Int) (s : Nat) (hs : s ≠ sh) : ∀ (ts : List Int) (xss : List (List Entry)) (seq : Int), (eU sh prio rid ts xss seq).getD s [] = xss.getD s []
 | [], xss, seq => rfl
 | u :: ts, xss, seq => by
  simp only [eU]
  rw [jJ sh prio rid s hs ts]
  rw [getD_eq_getElem?_getD, getElem?_set_ne (fun e => hs e.symm), getD_eq_getElem?_getD]
theorem RI.change {y out : Yard} {n k i : Nat} {r : Run} {t : Task} (hy : YardIs y) (h : RI y out n) (hr : out.runs[k]? = some r) (ht : r.tasks[i]? = some t) (h3 : t.state = 3) (hR : RunIs r) : RI y (cC out k r (bI r i)) (n + 1) := by
 obtain ⟨hk1, hk2, hk3, hk4⟩ := lY r i
 have hsm := hR.small
 have hfl := kN r (bI r i)
 have hsh := hy.shelf
 have hsr := fA (bI r i).id
 have hkl := (gsi_.1 hr).1
 refine ⟨h.now, ?_, ?_, ?_, ?_, ?_⟩
 ·show y.seq ≤ out.seq + _ ∧ out.seq + _ ≤ _
  have := h.seq; omega
 ·show (eU _ _ _ _ _ _).length = _
  rw [jX]; exact h.shelf
 ·intro s hs
  show ((eU _ _ _ _ _ _).getD s []).length ≤ _
  by_cases e : s = (aO (bI r i).id).toNat
  ·subst e
   rw [jY _ _ _ _ _ _ (by rw [h.shelf]; omega)]
   have := h.each _ hs
   omega
  rw [jJ _ _ _ s e]
  have := h.each s hs
  omega
 ·show (out.runs.set k _).length = _
  rw [length_set]; exact h.runs
 intro j r0 hj
 obtain ⟨r2, h1, h2, h4, h5, h6⟩ := h.run j r0 hj
 show ∃ r2, (out.runs.set k _)[j]? = some r2 ∧ _
 by_cases e : k = j
 ·subst e
  rw [hr] at h1
  have e2 := Option.some.inj h1
  subst e2
  refine ⟨bI r i, getElem?_set_self hkl, hR.fails ht h3, by rw [hk1]; exact h4, by rw [hk3]; exact h5, fun a u hu => ?_⟩
  obtain ⟨u2, g1, g2⟩ := h6 a u hu
  obtain ⟨u3, g3, g4⟩ := hk4 a u2 g1
  exact ⟨u3, g3, by rw [g4]; exact g2⟩
 exact ⟨r2, by rw [getElem?_set_ne e]; exact h1, h2, h4, h5, h6⟩
theorem RI.turn {y out : Yard} {n : Nat} (hy : YardIs y) (h : RI y out n) {k i : Nat} (hk : k < y.runs.length) : RI y (gV out k i) (n + 1) := by
 obtain ⟨r2, h1, h2, _⟩ := h.run k _ (getElem?_eq_getElem hk)
 unfold gV
 rw [h1]
 simp only
 cases ht : r2.tasks[i]? with
 | none => exact h.mono aA
 | some t =>
  simp only
  split
  ·next h3 => exact h.change hy h1 ht h3 h2
  exact h.mono aA
theorem RI.inner {y out : Yard} {n : Nat} (hy : YardIs y) (h : RI y out n) {k : Nat} (hk : k < y.runs.length) : ∀ i, RI y (mG out k i) (n + i)
 | 0 => h
 | i + 1 => (RI.inner hy h hk i).turn hy hk
theorem RI.outer {y : Yard} (hy : YardIs y) : ∀ k, k ≤ y.runs.length → RI y (jE y k) (12 * k)
 | 0, _ => RI.start hy
 | k + 1, hk => by
  have ih := RI.outer hy k aA
  have hr : y.runs[k]? = some y.runs[k] := getElem?_eq_getElem aA
  have hs := (hy.run k _ hr).1.small
  have := ih.inner hy (k := k) aA (rT y k)
  rw [rS hr] at this
  show RI y (mG (jE y k) k (rT y k)) _
  rw [rS hr]
  exact this.mono aA
theorem RI.at {y : Yard} (hy : YardIs y) {k i : Nat} (hk : k < y.runs.length) : RI y (mG (jE y k) k i) (12 * k + i) := (RI.outer hy k aA).inner hy hk i
theorem RI.ix {y out : Yard} {n : Nat} (hy : YardIs y) (h : RI y out n) {k : Nat} {r : Run} (hr : y.runs[k]? = some r) : bF out r.id = some k := by
 rw [← (hy.run k r hr).2]
 unfold bF
 rw [h.runs]
 congr 1
 exact zG h.runs (fun j a b ha hb => by
  obtain ⟨r2, h1, _, h3, _⟩ := h.run j b hb
  rw [ha] at h1
  have := Option.some.inj h1
  subst this
  rw [h3])
def dK (y : Yard) (id task try_ : Int) : Bool :=
 match bF y id with
 | none => false
 | some k => match y.runs[k]? with
  | none => false
  | some r => inB task 0 ((r.tasks.length : Int) - 1) && (match r.tasks[task.toNat]? with | some t => decide (t.state = 3) && decide (t.try_ = try_) | none => false)
theorem RI.holds {y out : Yard} {n : Nat} (hy : YardIs y) (h : RI y out n) {k i : Nat} {r : Run} {t : Task} (hr : y.runs[k]? = some r) (ht : r.tasks[i]? = some t) :
  ∃ r2 t2, out.runs[k]? = some r2 ∧ RunIs r2 ∧ r2.tasks[i]? = some t2 ∧ dK out r.id (i : Int) t.try_ = decide (t2.state = 3) := by
 obtain ⟨r2, h1, h2, h3, h4, h5⟩ := h.run k r hr
 obtain ⟨t2, h6, h7⟩ := h5 i t ht
 refine ⟨r2, t2, h1, h2, h6, ?_⟩
 have hl := (gsi_.1 ht).1
 unfold dK
 rw [h.ix hy hr]
 simp only [h1, Int.toNat_natCast, h6, h7, decide_true, Bool.and_true]
 have : inB (i : Int) 0 ((r2.tasks.length : Int) - 1) = true := inB_iff'.2 aA
 rw [this]; rfl
theorem aN6 {out : Yard} {k i : Nat} {r : Run} {t : Task} (hr : out.runs[k]? = some r) (ht : r.tasks[i]? = some t) (h3 : t.state = 3) : gV out k i = cC out k r (bI r i) := by unfold gV; rw [hr]; simp only [ht, h3, if_true]
theorem tS {out : Yard} {k i : Nat} {r : Run} {t : Task} (hr : out.runs[k]? = some r) (ht : r.tasks[i]? = some t) (h3 : ¬ t.state = 3) : gV out k i = out := by unfold gV; rw [hr]; simp only [ht, h3, if_false]
theorem fresh_runs {y y' : Yard} (h : y'.runs = y.runs) (e : Entry) : fresh y' e = fresh y e := by
 unfold fresh bF
 rw [h]
theorem fresh_at {y : Yard} {e : Entry} (h : fresh y e = true) : ∃ k r t, bF y e.run = some k ∧ y.runs[k]? = some r ∧ 0 ≤ e.task ∧ r.tasks[e.task.toNat]? = some t ∧ t.state = 2 := by
 unfold fresh at h
 cases h1 : bF y e.run with
 | none => rw [h1] at h; cases h
 | some k =>
  rw [h1] at h
  simp only at h
  cases h2 : y.runs[k]? with
  | none => rw [h2] at h; cases h
  | some r =>
   rw [h2] at h
   simp only [Bool.and_eq_true] at h
   obtain ⟨h3, h4⟩ := h
   cases h5 : r.tasks[e.task.toNat]? with
   | none => rw [h5] at h4; cases h4
   | some t => rw [h5] at h4; exact ⟨k, r, t, rfl, h2, (inB_iff'.1 h3).1, h5, by simpa using h4⟩
def kZ (y : Yard) (s : Nat) (l : List Entry) : Yard := ⟨y.now, y.seq, y.shelf.set s l, y.runs⟩
def aP (y : Yard) (s : Int) : Yard := if inB s 0 ((y.shelf.length : Int) - 1) then kZ y s.toNat ((y.shelf.getD s.toNat []).filter (fresh y)) else y
def bS (xs : List Entry) : Nat := (xs.length + 1) / 2
def cL (a b : List Entry) : List Entry := if 80 < a.length + b.length then a else b.foldl iR a
theorem oP (b : List Entry) : ∀ a : List Entry, (b.foldl iR a).length = a.length + b.length := by
 induction b with
 | nil => intro a; rfl
 | cons e b ih => intro a; rw [foldl_cons, ih, aH2, length_cons]; omega
theorem foldl_put_to {a b : List Entry} {k : Nat} (h : k < b.length) : (b.take (k + 1)).foldl iR a = iR ((b.take k).foldl iR a) b[k] := by
 rw [take_succ_eq_append_getElem h, foldl_append]; rfl
theorem merged_len {a b : List Entry} (h : a.length ≤ 80) : (cL a b).length ≤ 80 := by
 unfold cL
 split
 ·exact h
 rw [oP]; omega
theorem putE_mem {xs : List Entry} {e x : Entry} (h : x ∈ iR xs e) : x ∈ xs ∨ x = e := by
 unfold iR at h
 rw [mem_append, mem_cons] at h
 rcases h with h | h | h
 ·exact .inl (mem_of_mem_take h)
 ·exact .inr h
 exact .inl (mem_of_mem_drop h)
theorem foldl_put_mem (b : List Entry) : ∀ {a : List Entry} {x : Entry}, x ∈ b.foldl iR a → x ∈ a ∨ x ∈ b := by
 induction b with
 | nil => intro a x h; exact .inl h
 | cons e b ih =>
  intro a x h
  rcases ih h with h | h
  ·rcases putE_mem h with h | h
   ·exact .inl h
   exact .inr (by simp [h])
  exact .inr (by simp [h])
theorem merged_mem {a b : List Entry} {x : Entry} (h : x ∈ cL a b) : x ∈ a ∨ x ∈ b := by
 unfold cL at h
 split at h
 ·exact .inl h
 exact foldl_put_mem b h
def kX (home draw : Int) (i : Nat) : Int := (home + 1 + (max draw 0 % 3 + (i : Int)) % 3) % 4
def aZ (home draw : Int) : List Int := [kX home draw 0, kX home draw 1, kX home draw 2]
theorem uP (home draw : Int) (i : Nat) (hh : 0 ≤ home ∧ home ≤ 3) : 0 ≤ kX home draw i ∧ kX home draw i ≤ 3 ∧ kX home draw i ≠ home := by unfold kX; omega
theorem kG {home draw : Int} (hh : 0 ≤ home ∧ home ≤ 3) : ∀ o ∈ aZ home draw, 0 ≤ o ∧ o ≤ 3 ∧ o ≠ home := by
 intro o ho
 simp only [aZ, mem_cons, not_mem_nil, or_false] at ho
 rcases ho with rfl | rfl | rfl <;> exact uP _ _ _ hh
def aC3 (y : Yard) (home o : Nat) : Yard := kZ (kZ y home (cL (y.shelf.getD home []) ((y.shelf.getD o []).take (bS (y.shelf.getD o []))))) o ((y.shelf.getD o []).drop (bS (y.shelf.getD o [])))
theorem robY_comm {y : Yard} {home o : Nat} (h : home ≠ o) : aC3 y home o = kZ (kZ y o ((y.shelf.getD o []).drop (bS (y.shelf.getD o [])))) home (cL (y.shelf.getD home []) ((y.shelf.getD o []).take (bS (y.shelf.getD o [])))) := by
 unfold aC3 kZ
 simp only [Yard.mk.injEq, true_and, and_true]
 rw [set_comm _ _ h]
def tC (home : Nat) (y : Yard) (o : Int) : Yard := if y.shelf.getD home [] = [] then aC3 (aP y o) home o.toNat else y
def cZ (home : Nat) (y : Yard) (l : List Int) : Yard := l.foldl (tC home) y
theorem tA (home : Nat) (y : Yard) (l : List Int) : cZ home y (l.take 0) = y := rfl
theorem yQ {home : Nat} {y : Yard} {l : List Int} {k : Nat} {o : Int} (h : l[k]? = some o) (he : (cZ home y (l.take k)).shelf.getD home [] = []) : cZ home y (l.take (k + 1)) = aC3 (aP (cZ home y (l.take k)) o) home o.toNat := by
 obtain ⟨hj, rfl⟩ := gsi_.1 h
 rw [take_succ_eq_append_getElem hj]
 unfold cZ at he ⊢
 rw [foldl_append, foldl_cons, foldl_nil]
 have hz : ∀ (z : Yard) (o : Int), z.shelf.getD home [] = [] → tC home z o = aC3 (aP z o) home o.toNat := fun z o h => by unfold tC; rw [if_pos h]
 exact hz _ _ he
theorem tB {home : Nat} {y : Yard} : ∀ {l : List Int}, ¬ y.shelf.getD home [] = [] → cZ home y l = y
 | [], _ => rfl
 | o :: l, h => by
  show cZ home (tC home y o) l = y
  have : tC home y o = y := by unfold tC; rw [if_neg h]
  rw [this]; exact tB h
theorem vL {home : Nat} {y : Yard} {l : List Int} {k : Nat} (h : ¬ (cZ home y (l.take k)).shelf.getD home [] = []) : cZ home y l = cZ home y (l.take k) := by
 have e : cZ home y l = cZ home (cZ home y (l.take k)) (l.drop k) := by
  unfold cZ
  rw [← foldl_append, take_append_drop]
 rw [e]; exact tB h
theorem vM {home : Nat} {y : Yard} {l : List Int} {k : Nat} (h : k = l.length) : cZ home y (l.take k) = cZ home y l := by rw [h, take_length]
structure PI (y out : Yard) (home : Nat) : Prop where
 now : out.now = y.now
 seq : out.seq = y.seq
 runs : out.runs = y.runs
 len : out.shelf.length = 4
 each : ∀ s, s < 4 → (out.shelf.getD s []).length ≤ 80
 fresh : ∀ e ∈ out.shelf.getD home [], fresh y e = true
theorem iI {xss : List (List Entry)} {s : Nat} (h : s < xss.length) (l : List Entry) : (xss.set s l).getD s [] = l := by rw [getD_eq_getElem?_getD, getElem?_set_self h]; rfl
theorem mS {xss : List (List Entry)} {s j : Nat} (h : s ≠ j) (l : List Entry) : (xss.set s l).getD j [] = xss.getD j [] := by rw [getD_eq_getElem?_getD, getElem?_set_ne h, getD_eq_getElem?_getD]
theorem rU {y : Yard} {s : Int} (h : 0 ≤ s ∧ s ≤ 3) (h4 : y.shelf.length = 4) : aP y s = kZ y s.toNat ((y.shelf.getD s.toNat []).filter (Go.Proofs.YtanpcpoogkdlaaaGreat.fresh y)) := by
 unfold aP
 rw [if_pos (inB_iff'.2 aA)]
theorem iJ {y : Yard} (h : YardIs y) : ∀ s, s < 4 → (y.shelf.getD s []).length ≤ 80 := by
 intro s hs
 have hl := h.shelf
 rw [getD_eq_getElem?_getD, getElem?_eq_getElem aA]
 have := kK (h.each y.shelf[s] (getElem_mem _))
 simpa using this
theorem kD {xss : List (List Entry)} {n s : Nat} {l : List Entry} (h : ∀ j, j < 4 → (xss.getD j []).length ≤ n) (hl : l.length ≤ n) (h4 : xss.length = 4) : ∀ j, j < 4 → ((xss.set s l).getD j []).length ≤ n := by
 intro j hj
 by_cases e : s = j
 ·subst e; rw [iI aA]; exact hl
 rw [mS e]; exact h j hj
theorem PI.start {y : Yard} (h : YardIs y) {home : Nat} (hh : home < 4) : PI y (aP y (home : Int)) home := by
 have h4 := h.shelf
 rw [rU aA h4]
 simp only [Int.toNat_natCast]
 refine ⟨rfl, rfl, rfl, by show (y.shelf.set _ _).length = 4; rw [length_set]; exact h4, ?_, ?_⟩
 ·exact kD (iJ h) (Nat.le_trans (length_filter_le _ _) (iJ h home hh)) h4
 intro e he
 have : e ∈ (y.shelf.set home ((y.shelf.getD home []).filter (Go.Proofs.YtanpcpoogkdlaaaGreat.fresh y))).getD home [] := he
 rw [iI aA] at this
 exact (mem_filter.1 this).2
theorem PI.rob {y out : Yard} {home : Nat} (h : PI y out home) (hh : home < 4) {o : Int} (ho : 0 ≤ o ∧ o ≤ 3 ∧ o ≠ (home : Int)) : PI y (aC3 (aP out o) home o.toNat) home := by
 have h4 := h.len
 have e4 : (out.shelf.set o.toNat ((out.shelf.getD o.toNat []).filter (Go.Proofs.YtanpcpoogkdlaaaGreat.fresh out))).length = 4 := by rw [length_set]; exact h4
 have e0 : (out.shelf.set o.toNat ((out.shelf.getD o.toNat []).filter (Go.Proofs.YtanpcpoogkdlaaaGreat.fresh out))).getD o.toNat [] = (out.shelf.getD o.toNat []).filter (Go.Proofs.YtanpcpoogkdlaaaGreat.fresh out) := iI aA _
 have e1 : (out.shelf.set o.toNat ((out.shelf.getD o.toNat []).filter (Go.Proofs.YtanpcpoogkdlaaaGreat.fresh out))).getD home [] = out.shelf.getD home [] := mS aA _
 have hfl : ((out.shelf.getD o.toNat []).filter (Go.Proofs.YtanpcpoogkdlaaaGreat.fresh out)).length ≤ 80 := Nat.le_trans (length_filter_le _ _) (h.each _ aA)
 rw [rU aA h4]
 refine ⟨h.now, h.seq, h.runs, ?_, ?_, ?_⟩
 ·unfold aC3 kZ
  simp only [length_set]
  exact h4
 ·refine kD (kD (kD h.each hfl h4) ?_ e4) ?_ (by unfold kZ; simp only [length_set]; exact h4)
  ·exact merged_len (by show ((List.set _ _ _).getD home []).length ≤ 80; rw [e1]; exact h.each _ hh)
  show (List.drop _ ((List.set _ _ _).getD _ [])).length ≤ 80
  rw [e0, length_drop]; omega
 intro e he
 have he' : e ∈ (((out.shelf.set o.toNat ((out.shelf.getD o.toNat []).filter (Go.Proofs.YtanpcpoogkdlaaaGreat.fresh out))).set home (cL ((out.shelf.set o.toNat ((out.shelf.getD o.toNat []).filter (Go.Proofs.YtanpcpoogkdlaaaGreat.fresh out))).getD home []) (((out.shelf.set o.toNat ((out.shelf.getD o.toNat []).filter (Go.Proofs.YtanpcpoogkdlaaaGreat.fresh out))).getD o.toNat []).take (bS ((out.shelf.set o.toNat ((out.shelf.getD o.toNat []).filter (Go.Proofs.YtanpcpoogkdlaaaGreat.fresh out))).getD o.toNat []))))).set o.toNat _).getD home [] := he
 rw [mS aA, iI aA, e0, e1] at he'
 rcases merged_mem he' with h1 | h1
 ·exact h.fresh e h1
 have := (mem_filter.1 (mem_of_mem_take h1)).2
 rwa [fresh_runs h.runs] at this
theorem PI.all {y : Yard} (h : YardIs y) {home : Nat} (hh : home < 4) {l : List Int} (hl : ∀ o ∈ l, 0 ≤ o ∧ o ≤ 3 ∧ o ≠ (home : Int)) : ∀ {out : Yard}, PI y out home → PI y (cZ home out l) home := by
 induction l with
 | nil => intro out ho; exact ho
 | cons o l ih =>
  intro out ho
  refine ih (fun a ha => hl a (by simp [ha])) (out := tC home out o) ?_
  unfold tC
  split
  ·exact ho.rob hh (hl o (by simp))
  exact ho
theorem PI.take {y : Yard} (h : YardIs y) {home : Nat} (hh : home < 4) {l : List Int} (hl : ∀ o ∈ l, 0 ≤ o ∧ o ≤ 3 ∧ o ≠ (home : Int)) (k : Nat) : PI y (cZ home (aP y (home : Int)) (l.take k)) home := PI.all h hh (fun o ho => hl o (mem_of_mem_take ho)) (PI.start h hh)
def fY (r : Run) (i : Nat) (t : Task) (now : Int) : Run := ⟨r.id, r.plan, r.state, r.tasks.set i ⟨3, t.need, t.try_ + 1, now + r.plan.wait⟩⟩
def mR (out : Yard) (home : Nat) : Yard × Reply := match out.shelf.getD home [] with
 | [] => (out, ⟨9, 0, 0, 0⟩)
 | e :: rest => match bF out e.run with
  | none => (out, ⟨9, 0, 0, 0⟩)
  | some k => match out.runs[k]? with
   | none => (out, ⟨9, 0, 0, 0⟩)
   | some r => match r.tasks[e.task.toNat]? with
    | none => (out, ⟨9, 0, 0, 0⟩)
    | some t => (⟨out.now, out.seq, out.shelf.set home rest, out.runs.set k (fY r e.task.toNat t out.now)⟩, ⟨0, e.run, e.task, t.try_ + 1⟩)
noncomputable def eH (y : Yard) (worker draw : Int) : Yard × Reply :=
 if ¬ aI y = true then (y, ⟨8, 0, 0, 0⟩) else if ¬ inB worker 0 99 = true then (y, ⟨5, 0, 0, 0⟩)
 else mR (cZ (worker % 4).toNat (aP y (worker % 4)) (aZ (worker % 4) draw)) (worker % 4).toNat
theorem wL {out : Yard} {home : Nat} (h : out.shelf.getD home [] = []) : mR out home = (out, ⟨9, 0, 0, 0⟩) := by unfold mR; rw [h]
theorem zM {out : Yard} {home k : Nat} {e : Entry} {rest : List Entry} {r : Run} {t : Task} (h : out.shelf.getD home [] = e :: rest) (hk : bF out e.run = some k) (hr : out.runs[k]? = some r) (ht : r.tasks[e.task.toNat]? = some t) : mR out home = (⟨out.now, out.seq, out.shelf.set home rest, out.runs.set k (fY r e.task.toNat t out.now)⟩, ⟨0, e.run, e.task, t.try_ + 1⟩) := by
 unfold mR
 rw [h]; simp only [hk, hr, ht]
def fM (ns : List Nat) : List UInt8 := ns.flatMap aM
def rY (ns : List Nat) : Prop := ∀ n ∈ ns, n ≤ 1000000000
theorem varBytes_inj_pre {m n : Nat} {l : List UInt8} (h1 : aM m <+: l) (h2 : aM n <+: l) : m = n := by
 have e := jF (bL m).1 (bL n).1 h1 h2
 rw [← (bL m).2, e, (bL n).2]
theorem lK : ∀ {ns ms : List Nat} {r : List UInt8}, fM ns ++ r = fM ms → ∃ ms', ms = ns ++ ms' ∧ r = fM ms'
 | [], ms, r, h => ⟨ms, rfl, h⟩
 | n :: ns, [], r, h => by
  have h2 := uQ (bL n).1
  cases hv : aM n with
  | nil => exact absurd hv h2
  | cons b l => simp [fM, hv] at h
 | n :: ns, m :: ms, r, h => by
  have h1 : aM n ++ (fM ns ++ r) = aM m ++ fM ms := by simpa [fM] using h
  have e : n = m := varBytes_inj_pre (l := aM n ++ (fM ns ++ r)) (prefix_append _ _) (by rw [h1]; exact prefix_append _ _)
  subst e
  obtain ⟨ms', e1, e2⟩ := lK (append_cancel_left h1)
  exact ⟨ms', by rw [e1]; rfl, e2⟩
theorem varsB_inj {ns ms : List Nat} (h : fM ns = fM ms) : ns = ms := by
 obtain ⟨ms', e1, e2⟩ := lK (ns := ns) (ms := ms) (r := []) (by simpa using h)
 cases ms' with
 | nil => simpa using e1.symm
 | cons m ms' =>
  have h2 := uQ (bL m).1
  cases hv : aM m with
  | nil => exact absurd hv h2
  | cons b l => simp [fM, hv] at e2
noncomputable def yB (s : ByteArray) : List Int × Bool := @dite _ (∃ ns : List Nat, rY ns ∧ fM ns = s.data.toList) (Classical.propDecidable _) (fun h => ((Classical.choose h).map fun n : Nat => (n : Int), true)) (fun _ => ([], false))
theorem varsR_some {s : ByteArray} {ns : List Nat} (h : rY ns) (e : fM ns = s.data.toList) : (ns.map (fun n : Nat => (n : Int)), true) = yB s := by
 have hx : ∃ ns : List Nat, rY ns ∧ fM ns = s.data.toList := ⟨ns, h, e⟩
 unfold yB
 rw [dif_pos hx, varsB_inj ((Classical.choose_spec hx).2.trans e.symm)]
theorem varsR_none {s : ByteArray} (h : ∀ ns : List Nat, rY ns → fM ns ≠ s.data.toList) : ([], false) = yB s := by
 unfold yB
 rw [dif_neg fun ⟨ns, h1, h2⟩ => h ns h1 h2]
structure RJ (s : ByteArray) (a : Nat) (out : List Int) : Prop where
 le : a ≤ s.size
 len : out.length ≤ a
 ex : ∃ ns : List Nat, rY ns ∧ fM ns = s.data.toList.take a ∧ out = ns.map fun n : Nat => (n : Int)
theorem RJ.start (s : ByteArray) : RJ s 0 [] := ⟨Nat.zero_le _, Nat.le_refl _, [], by simp [rY], by simp [fM], rfl⟩
theorem RJ.done {s : ByteArray} {a : Nat} {out : List Int} (h : RJ s a out) (hn : ¬ (a : Int) < s.size) : (out, true) = yB s := by
 obtain ⟨ns, h1, h2, rfl⟩ := h.ex
 rw [take_of_length_le (by have : s.data.toList.length = s.size := rfl; omega)] at h2
 exact varsR_some h1 h2
theorem vAt_neg {s : ByteArray} {a : Nat} (h : (vAt s a).2 < 0) : eX (s.data.toList.drop a) = none := by
 cases hv : eX (s.data.toList.drop a) with
 | none => rfl
 | some p =>
  obtain ⟨n, k⟩ := p
  rw [← aF2 hv] at h
  simp only at h
  omega
theorem RJ.bad {s : ByteArray} {a : Nat} {out : List Int} (h : RJ s a out) (hlt : (a : Int) < s.size) (hv : (vAt s a).2 < 0) : ([], false) = yB s := by
 have hv := vAt_neg hv
 refine varsR_none fun ms h1 h2 => ?_
 obtain ⟨ns, h3, h4, rfl⟩ := h.ex
 have h5 : fM ns ++ s.data.toList.drop a = fM ms := by rw [h4, take_append_drop, h2]
 obtain ⟨ms', e1, e2⟩ := lK h5
 cases ms' with
 | nil =>
  have := congrArg List.length e2
  rw [rE] at this
  simp [fM] at this
  omega
 | cons m ms' =>
  have hm : m ≤ 1000000000 := h1 m (by rw [e1]; simp)
  have := varHead_some hm (l := s.data.toList.drop a) (by rw [e2]; exact ⟨fM ms', by simp [fM]⟩)
  rw [this] at hv
  cases hv
theorem RJ.next {s : ByteArray} {a : Nat} {out : List Int} (h : RJ s a out) (hv : ¬ (vAt s a).2 < 0) : ∃ b : Nat, (vAt s a).2 = (b : Int) ∧ a < b ∧ RJ s b (out ++ [(vAt s a).1]) ∧ I64 (vAt s a).1 := by
 cases hh : eX (s.data.toList.drop a) with
 | none =>
  rw [← vAt_none hh] at hv
  simp at hv
 | some p =>
  obtain ⟨n, k⟩ := p
  obtain ⟨h1, h2, h3⟩ := pU hh
  rw [← aF2 hh]
  obtain ⟨ns, h4, h5, rfl⟩ := h.ex
  have hp := uQ (bL n).1
  have hk : 0 < k := by rw [h3]; exact length_pos_iff.2 hp
  have hle := h2.length_le
  rw [rE] at hle
  refine ⟨a + k, by simp, by omega, ⟨by have := h.le; omega, ?_, ns ++ [n], ?_, ?_, by simp⟩, by simp only; unfold I64; omega⟩
  ·have := h.len
   simp only [length_append, length_map, length_singleton] at *
   omega
  ·intro m hm
   rcases mem_append.1 hm with hm | hm
   ·exact h4 m hm
   simp at hm; subst hm; exact h1
  rw [take_add]
  show (ns ++ [n]).flatMap aM = _
  rw [flatMap_append]
  have e : (s.data.toList.drop a).take k = aM n := by
   obtain ⟨t, ht⟩ := h2
   rw [← ht, h3]; simp
  rw [e]
  congr 1
  simp
structure Numb where
 list : List Int
 bad : Bool
instance : Shape Numb where
 size := 2
 C := fun w cs x fp => ∃ (v1 : Value) (f1 : List Nat), cs = [v1, .bool x.bad] ∧ Sl w v1 x.list f1 ∧ fp = f1
 len := fun ⟨v1, f1, h, h1, hfp⟩ => by rw [h]; rfl
 loc := fun hs hk ⟨v1, f1, h, h1, hfp⟩ => ⟨v1, f1, h, h1.loc (fun b hb => hk b (by rw [hfp]; simp [hb])) hs, hfp⟩
 one := fun ⟨v1, f1, h, h1, hfp⟩ u hu => by
  obtain ⟨ao0, cap0, rfl, _⟩ := h1
  subst h
  simp at hu
  rcases hu with rfl | rfl <;> rfl
 lt := fun ⟨v1, f1, h, h1, hfp⟩ b hb => by
  subst hfp
  exact h1.lt b hb
instance : Dsh Numb where
 lv := fun x => [lS x.list, .v (.bool x.bad)]
 good := fun _ => True
 out := fun {w cs x fp} h => by
  obtain ⟨v0, f0, hcs, h0, hfp⟩ := h
  refine ⟨trivial, ?_⟩
  rw [hcs, hfp]
  exact ⟨f0, [], h0, ⟨rfl, rfl⟩, by simp⟩
 inn := fun hg h => by
  obtain ⟨c0, r0, f0, g0, e0, h0, z0, p0⟩ := cN h
  obtain ⟨r1, e1, z1⟩ := aE z0
  obtain ⟨e2, p1⟩ := cO z1
  subst e2 e1 e0 p1 p0
  exact ⟨c0, f0, rfl, h0, by simp⟩
structure LIn where
 s : ByteArray
 at_ : Nat
 bad : Bool
def LIn.ok (x : LIn) : Prop := x.s.size ≤ maxLen ∧ x.at_ ≤ 1048576
def LIn.cells (x : LIn) : List Value := [.string x.s, I x.at_, .bool x.bad]
instance : Shape LIn := Shape.flat 3 LIn.cells LIn.ok (fun _ => rfl) (fun _ v hv => by simp [LIn.cells] at hv; rcases hv with rfl | rfl | rfl <;> rfl)
instance : Dsh LIn where
 lv := fun x => [.v (.string x.s), .v (I x.at_), .v (.bool x.bad)]
 good := LIn.ok
 out := fun {w cs x fp} h => by obtain ⟨h1, h2, h3⟩ := h; subst h1; subst h2; exact ⟨h3, rfl, rfl, rfl, rfl⟩
 inn := fun hg h => by
  obtain ⟨r0, e0, z0⟩ := aE h
  obtain ⟨r1, e1, z1⟩ := aE z0
  obtain ⟨r2, e2, z2⟩ := aE z1
  obtain ⟨e3, p1⟩ := cO z2
  subst e3 e2 e1 e0 p1
  exact ⟨rfl, rfl, hg⟩
noncomputable def yZ (x : LIn) : LIn × Int :=
 if x.bad = true then (x, 0) else match eX (x.s.data.toList.drop x.at_) with
  | none => (⟨x.s, x.at_, true⟩, 0)
  | some (n, k) => (⟨x.s, x.at_ + k, x.bad⟩, (n : Int))
def LIn.in_ (x : LIn) : Prop := x.s.size ≤ 1048576 ∧ x.at_ ≤ x.s.size
theorem qV {x : LIn} (h : x.in_) : (yZ x).1.in_ := by
 unfold yZ
 split
 ·exact h
 split
 ·exact h
 next n k hh =>
 obtain ⟨_, h2, h3⟩ := pU hh
 have := h2.length_le
 rw [rE] at this
 exact ⟨h.1, by show x.at_ + k ≤ x.s.size; have := h.2; omega⟩
noncomputable def wT (x : LIn) : LIn × Entry :=
 let a := yZ x
 let b := yZ a.1
 let c := yZ b.1
 let d := yZ c.1
 (d.1, ⟨a.2, b.2, c.2, d.2⟩)
theorem entryL_in {x : LIn} (h : x.in_) : (wT x).1.in_ := qV (qV (qV (qV h)))
noncomputable def iG (x : LIn) : Nat → LIn × List Entry
 | 0 => (x, [])
 | i + 1 => if (iG x i).1.bad = true then iG x i else ((wT (iG x i).1).1, (iG x i).2 ++ [(wT (iG x i).1).2])
structure ShJ (x0 : LIn) (m : Int) (g : Nat × LIn × List Entry) : Prop where
 le : g.1 ≤ m.toNat
 eq : (g.2.1, g.2.2) = iG x0 g.1
 inn : g.2.1.in_
 len : g.2.2.length ≤ g.1
theorem ShJ.next {x0 : LIn} {m : Int} {g : Nat × LIn × List Entry} (h : ShJ x0 m g) (hi : x0.in_) (hm : (g.1 : Int) < m) (hb : g.2.1.bad = false) : ShJ x0 m (g.1 + 1, (wT g.2.1).1, g.2.2 ++ [(wT g.2.1).2]) := by
 have e1 : (iG x0 g.1).1 = g.2.1 := by rw [← h.eq]
 have e2 : (iG x0 g.1).2 = g.2.2 := by rw [← h.eq]
 refine ⟨by show g.1 + 1 ≤ m.toNat; omega, ?_, entryL_in h.inn, by have := h.len; simp only [length_append, length_singleton]; omega⟩
 show _ = (if (iG x0 g.1).1.bad = true then _ else _)
 rw [e1, e2, if_neg (by rw [hb]; simp)]
theorem ShJ.all {x0 : LIn} {m : Int} {g : Nat × LIn × List Entry} (h : ShJ x0 m g) (hm : ¬ (g.1 : Int) < m) : (g.2.1, g.2.2) = iG x0 m.toNat := by
 rw [h.eq, show g.1 = m.toNat by have := h.le; omega]
section
variable {A : Type} {R : A → Prop}
end
def planHd (p : Plan) : List Int := [p.prio, p.most, p.wait, p.tasks, (p.edges.length : Int)]
def planTo (p : Plan) (k : Nat) : List Int := planHd p ++ (p.edges.take k).flatMap fun e => [e.from_, e.to_]
def planN (p : Plan) : List Int := planTo p p.edges.length
structure Rdr (σ : Type) where
 next : σ → σ × Int
 bad : σ → Bool
 lim : Int → Int → σ → σ
section
variable {σ : Type} (r : Rdr σ)
end
/-! ### Its numbers -/
def entryNs (e : Entry) : List Int := [e.prio, e.seq, e.run, e.task]
def taskNs (t : Task) : List Int := [t.state, t.need, t.try_, t.until_]
def shelfNs (l : List Entry) : List Int := (l.length : Int) :: l.flatMap entryNs
def runNs (x : Run) : List Int := x.id :: (planN x.plan ++ (x.state :: x.tasks.flatMap taskNs))
def yardNs (y : Yard) : List Int := y.now :: y.seq :: (y.shelf.flatMap shelfNs ++ ((y.runs.length : Int) :: y.runs.flatMap runNs))
/-! ### From numbers to the yard -/
structure Fwd {σ : Type} (r : Rdr σ) (Rd : σ → List Int → Prop) : Prop where
 next : ∀ {x n ns}, Rd x (n :: ns) → (r.next x).2 = n ∧ Rd (r.next x).1 ns
 ok : ∀ {x ns}, Rd x ns → r.bad x = false
 lim : ∀ {k m x}, m ≤ k → r.lim k m x = x
section
variable {σ : Type} {r : Rdr σ} {Rd : σ → List Int → Prop}
variable (F : Fwd r Rd)
include F
structure YFits (y : Yard) : Prop where
 four : y.shelf.length = 4
 eighty : ∀ l ∈ y.shelf, l.length ≤ 80
 eight : y.runs.length ≤ 8
 runs : ∀ q ∈ y.runs, q.plan.edges.length ≤ 31 ∧ q.plan.tasks ≤ 12 ∧ (q.tasks.length : Int) = q.plan.tasks
end
/-! ### From what was read back to the numbers -/
structure Bwd {σ : Type} (r : Rdr σ) (In : σ → Prop) (Cs : σ → σ → List Int → Prop) : Prop where
 refl : ∀ {x}, Cs x x []
 trans : ∀ {x y z a b}, Cs x y a → Cs y z b → Cs x z (a ++ b)
 next : ∀ {x}, r.bad (r.next x).1 = false → r.bad x = false ∧ Cs x (r.next x).1 [(r.next x).2]
 lim : ∀ {k m x}, r.bad (r.lim k m x) = false → r.lim k m x = x
 inn : ∀ {x}, In x → In (r.next x).1 ∧ 0 ≤ (r.next x).2 ∧ (r.next x).2 ≤ 1000000000
 limI : ∀ {k m x}, In x → In (r.lim k m x)
section
variable {σ : Type} {r : Rdr σ} {In : σ → Prop} {Cs : σ → σ → List Int → Prop}
variable (B : Bwd r In Cs)
include B
end
/-! ### The two readers -/
def Numb.in_ (x : Numb) : Prop := ∀ n ∈ x.list, 0 ≤ n ∧ n ≤ 1000000000
def vtxt (n : Int) : List UInt8 := (bM n).data.toList
def textOf (l : List Int) : List UInt8 := l.flatMap vtxt
noncomputable def yardT (y : Yard) : ByteArray := if aI y = true then ⟨(textOf (yardNs y)).toArray⟩ else ⟨#[]⟩
/-! ### How much it weighs -/
/-! ### Marks -/
def yardNew : Yard := ⟨0, 1, List.replicate 4 [], []⟩
def zV : Engine := ⟨yardNew, ⟨[]⟩, 1, 0, [], 1, false⟩
def worldNew : WorldD := ⟨zV, [], [], 0, 0⟩

theorem YardNewI :
  Calls prog 102 #[] w (rO_ yardNew w) := by
 refine bC5 func102 rfl ntmps102 dE (wp_seq (aC (sg (gB pQ (St.start w) ?_)))); intro b1 W2 hb3 st4
 refine aF (wp_seq (aC (sg (yI (α := (List Entry)) (N := 4) (v := .slice none 0 0) (z := ([] : List Entry)) pN aB rfl rfl aA aA st4 (fun W => ⟨_, rfl, nil_Sl⟩) ?_)))); intro b6 fp10 W7 hb8 st9
 refine sg (yJ (vs := [(1, I 1), (2, (.slice (some ⟨b6, 0, none⟩) 4 4))]) (cs := [I 0, I 1, (.slice (some ⟨b6, 0, none⟩) 4 4), .slice none 0 0]) (yX (v := I 1) rfl (yX (v := (.slice (some ⟨b6, 0, none⟩) 4 4)) rfl xX)) aB ?_)
 have st12 := st9.f1
 refine sg (eA aB rfl rfl (cA rfl (cA rfl (cA (Sl.one (bV (st12.get 1 rfl))) (cA rfl qU)))) st12 xY rfl ?_); intro W13 st14
 refine aF (wp_ret ?_); repeat first|refine uW ?_|refine aE3 ?_
 refine retc1 dP rfl results102 rfl (st14.get 0 rfl) rfl ?_
 have st15 := St.own_nil (α := Run) st14
 have st17 := st15.f2
 have st18 := nI (x := yardNew) st17 (by simp [worldNew, zV, yardNew, WorldD.ok, Engine.ok, Yard.ok, Disk.ok, I64])
 exact ⟨_, _, rfl, st18.only 0 rfl⟩
theorem YardNewS :
  Calls prog 125 #[] w (rO_ yardNew w) := by
 refine bC5 func125 rfl ntmps125 dE (wp_seq (aC (sg (gB pQ (St.start w) ?_)))); intro b1 W2 hb3 st4
 refine aF (wp_seq (aC (sg (yJ (vs := [(1, I 1)]) (cs := [I 0, I 1, .slice none 0 0, .slice none 0 0]) (yX (v := I 1) rfl xX) aB (sg (gB pQ st4 ?_)))))); intro b6 W7 hb8 st9
 refine sg (eA aB rfl rfl (cA rfl (cA rfl (cA rfl (cA rfl qU)))) st9 xY rfl ?_); intro W11 st12
 refine aF (wp_seq (wp_seq (aC ?_)))
 have st13 := st12.row_nil (α := List Entry) 217
 skip
 refine sg (dB (aF (wp_block (iB (fun (m : Nat) (f : Nat → Value) (W : World) => ∃ (k : Nat) (v15 : Value), k ≤ 4 ∧ m = 4 - k ∧ f 0 = pt_ b1 ∧ f 1 = pt_ b6 ∧ f 2 = I (k : Int) ∧ St w W ([Res.row (α := (List Entry)) 217 v15 (List.replicate k ([] : List Entry)) [], Res.bx b6 [I 0, I 1, v15, .slice none 0 0] 27, Res.bx b1 [I 0, I 0, .slice none 0 0, .slice none 0 0] 27])) (4 - 0) ?_ ?_))))
 ·exact ⟨0, (.slice none 0 0), aA, rfl, rfl, rfl, rfl, st13⟩
 intro m16 f17 W18 hJ19
 obtain ⟨k, v15, hcd21_0, rfl, hs21_0, hs21_1, hs21_2, st20⟩ := hJ19
 refine wp_seq (wp_seq (aC (sg (bB (v := I (k : Int)) hs21_2 (sg (qC rfl rfl (aF (oG rfl (fun h22 => ?_) (fun h22 => ?_)))))))))
 ·have h22p := of_decide_eq_true h22
  refine wp_skip (wp_seq (wp_block (aC (sg (dG zS hs21_1 (sg (dW ld_EntrySS rfl rfl (st20.get 1 rfl) (i := 2) rfl rfl (sg (bR (cs := []) (e := 243) xX (eQ fL _) st20 ?_))))))))); intro b23 W24 hb25 st26
  have st26 := st26.row_empty (α := Entry)
  refine sg (bR (cs := [(.slice (some ⟨b23, 0, none⟩) 0 0)]) (e := 217) (yX (v := (.slice (some ⟨b23, 0, none⟩) 0 0)) rfl xX) (iY pN _ _ rfl rfl dE) st26 ?_); intro b28 W29 hb30 st31
  have st33 := st31.f2
  refine sg (iF (ys := [[]]) pN rfl rfl rfl st33 (Elems.one1 ⟨_, rfl, row_Sl0 (st33.get 2 rfl)⟩) (by rw [length_replicate]; unfold maxLen; omega) (by rw [length_replicate]; omega) ?_); intro v34 W35 st36
  refine sg (dG zS hs21_1 ?_)
  have st37 := st36.f2
  refine sg (iC (v := v34) aB rfl rfl (Sl.cells (eG (st37.get 1 rfl))) (Sl.one (eG (st37.get 1 rfl))) st37 xY rfl ?_); intro W38 st39
  refine aF (aC (sg (bB (v := I (k : Int)) hs21_2 (sg (jI rfl rfl aM2 ?_)))))
  have st40 := st39.row_nil (α := List Entry) 217
  skip
  refine sg (aW (v := I ((k : Int) + 1)) rfl (aF ?_))
  have st42 := st40.f4
  have st43 := st42.f2
  have st44 := st43.f3
  have st45 := st44.d3
  have st46 := st45.d3
  exact ⟨_, 4 - (k + 1), aA, rfl, k + 1, v34, aA, rfl, hs21_0, hs21_1, rfl, (by rw [replicate_succ']; exact st46)⟩
 have h22p := of_decide_eq_false h22
 refine wp_exit (wp_seq (aC (sg (jH (cs := [I 0, I 1, v15, .slice none 0 0]) dP rfl hs21_1 (st20.get 1 rfl) rfl rfl ?_))))
 have st47 := st20.f2
 refine sg (eA aB hs21_0 rfl (cA rfl (cA rfl (cA (Sl.one (eG (st47.get 1 rfl))) (cA rfl qU)))) st47 xY rfl ?_); intro W48 st49
 refine aF (wp_ret ?_); repeat first|refine uW ?_|refine aE3 ?_
 refine retc1 dP rfl results125 hs21_0 (st49.get 0 rfl) rfl ?_
 obtain rfl : k = 4 := by omega
 have st50 := st49.f1
 obtain ⟨fp52, st51⟩ := st50.shut
 have st53 := St.own_nil (α := Run) st51
 have st55 := st53.f1
 have st56 := nI (x := yardNew) st55 (by simp [yardNew, Yard.ok, I64])
 exact ⟨_, _, rfl, st56.only 0 rfl⟩
theorem bA0 {w W : World} {e : Ending} {x : Yard} (h : ∃ (cs' : List Value) (fp' : List Nat), e = .returned (.agg cs'.toArray) ∧ St w W [Res.own (.agg cs'.toArray) x fp']) : ∃ (a : Unit) (vs : List Value) (rs : List Res), True ∧ e = .returned (qJ vs) ∧ Rks vs [Rk.S x] rs ∧ St w W rs := by
 obtain ⟨cs, fp, he, st⟩ := h
 exact ⟨(), [.agg cs.toArray], [Res.cs cs x fp], trivial, he, ⟨[Res.cs cs x fp], [], ⟨cs, fp, rfl, rfl⟩, rfl, rfl⟩, st.cs rfl⟩
theorem YardNewD : Ct1 prog 102 [] [.S yardNew] := ⟨fun w us _ hp => by
 match us, hp with
 | [], _ => exact (YardNewI w).mono fun e w' h => bA0 h⟩
theorem YardNewSD : Ct1 prog 125 [] [.S yardNew] := ⟨fun w us _ hp => by
 match us, hp with
 | [], _ => exact (YardNewS w).mono fun e w' h => bA0 h⟩
structure waitP (e : Engine) (k : Nat) (w : Wait) : Prop where
 rng : inB w.call 1 e.calls = true
 up : ∀ j v, k = j + 1 → e.waits[j]? = some v → v.call < w.call
structure engH (e : Engine) : Prop where
 yard : aI e.yard = true
 disk : jC e.disk = true
 next : inB e.next 1 999999999 = true
 calls : inB e.calls 0 999999999 = true
 waits : ¬ (60 : Int) < e.waits.length
 state : inB e.state 1 3 = true
structure engP (e : Engine) : Prop extends engH e where
 ok : ∀ k w, e.waits[k]? = some w → waitP e k w
noncomputable def engOk (e : Engine) : Bool := pB (engP e)
structure EgJ (e : Engine) (k : Nat) : Prop extends engH e where
 le : k ≤ e.waits.length
 ok : ∀ j w, j < k → e.waits[j]? = some w → waitP e j w
theorem EgJ.start {e : Engine} (h : engH e) : EgJ e 0 := ⟨h, Nat.zero_le _, fun j w h => by omega⟩
theorem EgJ.step {e : Engine} {k : Nat} {w : Wait} (h : EgJ e k) (hw : e.waits[k]? = some w) (hok : waitP e k w) : EgJ e (k + 1) := by
 refine ⟨h.toengH, (gsi_.1 hw).1, fun j g hj hg => ?_⟩
 rcases Nat.lt_succ_iff_lt_or_eq.1 hj with h1 | rfl
 ·exact h.ok j g h1 hg
 rw [hw] at hg; cases hg; exact hok
def brk (e : Engine) : Engine := ⟨e.yard, e.disk, e.next, e.calls, e.waits, 2, false⟩
theorem DeleteRun {w W0 : World} {rs : List Res} {v : Value} {xs : List Run} {fp : List Nat} {k : Nat} (hst : St w W0 (Res.own v xs fp :: rs)) (hk : k < xs.length) (hxl : xs.length ≤ 1048576 := by omega) :
  Calls prog 317 #[v, I (k : Int), I ((k : Int) + 1)] W0 fun e w' => ∃ (v' : Value) (fp' : List Nat), e = .returned v' ∧ St w w' (Res.own v' (xs.eraseIdx k) fp' :: rs) := by
 refine bC2 func317 rfl ntmps317 dE (wp_seq ?_)
 have hq_ := St.ownOpen' hst dE aA
 obtain ⟨bD, oD, cD, CD, eD, feD, hvD, hcD, hmD, hlD, st1⟩ := hq_
 subst hvD
 refine aC (sg (aW (v := .slice none 0 0) rfl (aF (wp_seq (aC (rn st1 5 Ag.nil.put.put.put.put [] [(8, .slice (some ⟨bD, oD, none⟩) xs.length cD), (9, I (k : Int)), (10, I ((k : Int) + 1)), (12, I ((xs.length : Nat) : Int))] [.l (.slice (some ⟨bD, oD, none⟩) xs.length cD) xs.length ⟨_, _, rfl⟩] aB fun f5 h5_ => (sg (stp_x3 (l := k) (h := k + 1) (mx := xs.length) fJ (h5_.at 8) (h5_.at 9) (h5_.at 10) (h5_.at 12) aA aA aA aA aA aA ?_)))))))); intro v3_
 refine aF (wp_seq (wp_seq (aC (rn st1 3 h5_.put [] [(16, .bool (decide ((k : Int) = ((k : Int) + 1))))] [.o] aB fun f7 h7_ => (aF (fX (h7_.at 16) (fun h8p => ?_) (fun h8p => ?_)))))))
 ·omega
 refine wp_skip (wp_seq (aC (rn st1 3 h7_ [] [(7, I ((xs.length : Nat) : Int))] [.l (.slice (some ⟨bD, oD, none⟩) xs.length cD) xs.length ⟨_, _, rfl⟩] aB fun f10 h10_ => (aF (wp_seq ?_)))))
 rcases nem (k + 1 < cD) with h11p | h11p
 ·refine kJ 6 [] [(true, .is (.slice (some ⟨bD, oD, none⟩) xs.length cD)), (true, .is (I (k : Int))), (true, .is (.slice (some ⟨bD, oD, none⟩) k cD)), (true, .is (.slice (some ⟨bD, oD, none⟩) xs.length cD)), (true, .is (I ((k : Int) + 1))), (true, .is (.slice (some ⟨bD, oD, none⟩) 0 0))] mix aB aB aB aB (rs0 := []) rfl st1 (Below.refl _ _) ⟨(mq_ (h10_.at 0)), (mq_ (h10_.at 1)), (fun f W hst hbl hd hf => rW (h := k) fJ (hd 0 20 rfl rfl) (hd 1 21 rfl rfl) aA aA aA brq), (mq_ (h10_.at 0)), (mq_ (h10_.at 2)), (fun f W hst hbl hd hf => aY1 (l := k + 1) fJ (hd 3 23 rfl rfl) (hd 4 24 rfl rfl) aA aA aA brq), trivial⟩ ?_
  intro f12 W13 rs_ hAL_ st16 hbl17 hv14 hf15
  have hn_ : rs_ = [] := hAL_
  subst hn_
  try simp only [cap_, sB] at st16
  have h1_ : ∀ v ∈ (CD.drop (oD + (k + 1) * 8)).take ((xs.length - (k + 1)) * 8), v.oneCell' = true := fun v hv => (st16.get 1 rfl).1.one v (aO7 hv (by show (k + 1) * 8 + (xs.length - (k + 1)) * 8 ≤ xs.length * 8; omega))
  have h0_ : xs.length - (k + 1) = 0 := by omega
  refine sg (yK (α := Run) (i := k) (m := xs.length - (k + 1)) (oy := oD + (k + 1) * 8) (q := xs.length - 1) fJ (hv14 2 22 dE rfl) (Eq.trans (hv14 5 25 dE rfl) (by rw [h0_])) (fun hz => by omega) aA aA (by show oD + (k + 1) * 8 + (xs.length - (k + 1)) * 8 ≤ CD.length; have hl_ : oD + xs.length * 8 ≤ CD.length := hlD; omega) (by show oD + k * 8 + (xs.length - (k + 1)) * 8 ≤ CD.length; have hl_ : oD + xs.length * 8 ≤ CD.length := hlD; omega) h1_ st16 ?_); intro W19 st20
  refine sg (aW (v := .slice (some ⟨bD, oD, none⟩) (xs.length - 1) cD) rfl (aF (wp_seq (aC (rn st20 4 (Ag.cons (show f12 7 = I ((xs.length : Nat) : Int) from ((hf15 7 rfl).trans (h10_.at 7))) Ag.nil).put.put [] [(27, .slice (some ⟨bD, oD, none⟩) (xs.length - 1) cD), (29, I (((xs.length - 1) : Nat) : Int)), (30, I ((xs.length : Nat) : Int))] [.l (.slice (some ⟨bD, oD, none⟩) (xs.length - 1) cD) (xs.length - 1) ⟨_, _, rfl⟩] aB fun f24 h24_ => (sg (aY2 (l := xs.length - 1) (h := xs.length) fJ (h24_.at 27) (h24_.at 29) (h24_.at 30) aA aA aA aA aA ?_)))))))
  refine sgn (oZ (s := 8) (zs := [I 0, I 0, I 0, I 0, I 0, .slice none 0 0, I 0, .slice none 0 0]) underlying25 aB rfl aA (by intro v hv; simp only [mem_cons, not_mem_nil, or_false] at hv; rcases hv with rfl | rfl | rfl | rfl | rfl | rfl | rfl | rfl <;> rfl) rfl aA st20 (by rw [cY]; have hl_ : oD + xs.length * 8 ≤ CD.length := hlD; show oD + (xs.length - 1) * 8 + (xs.length - (xs.length - 1)) * 8 ≤ _; omega) ?_); intro ZD W25 hZD st26
  refine aF (wp_seq (aC (sg (bB (h24_.at 0) (sg (aW (v := .slice (some ⟨bD, oD, none⟩) (xs.length - 1) cD) rfl (aF (wr (vN results317 rfl ?_)))))))))
  have hE_ := (st26.get 1 rfl).1.erase hk
  obtain ⟨f1, f2, f3, hfe_, hE3⟩ := hE_
  have hs_ := st26.f1.es_sub (fe' := f1 ++ f3) (by rw [hfe_]; exact (List.Sublist.refl _).append (sublist_append_right _ _)) hE3
  have hq_ := St.ownShut' (off := oD) (cap := cD) (m := xs.length - 1) hs_.f1 (zW hk hlD (by rw [hZD, show xs.length - (xs.length - 1) = 1 by omega]; rfl)).symm (by rw [length_eraseIdx_of_lt hk]) aA hmD
  obtain ⟨fpz, stz⟩ := hq_
  exact ⟨_, fpz, rfl, stz⟩
 refine kJ 6 [] [(true, .is (.slice (some ⟨bD, oD, none⟩) xs.length cD)), (true, .is (I (k : Int))), (true, .is (.slice (some ⟨bD, oD, none⟩) k cD)), (true, .is (.slice (some ⟨bD, oD, none⟩) xs.length cD)), (true, .is (I ((k : Int) + 1))), (true, .is (.slice (some ⟨bD, oD + (k + 1) * 8, none⟩) (xs.length - (k + 1)) (cD - (k + 1))))] mix aB aB aB aB (rs0 := []) rfl st1 (Below.refl _ _) ⟨(mq_ (h10_.at 0)), (mq_ (h10_.at 1)), (fun f W hst hbl hd hf => rW (h := k) fJ (hd 0 20 rfl rfl) (hd 1 21 rfl rfl) aA aA aA brq), (mq_ (h10_.at 0)), (mq_ (h10_.at 2)), (fun f W hst hbl hd hf => lN (l := k + 1) fJ (hd 3 23 rfl rfl) (hd 4 24 rfl rfl) aA aA aA brq), trivial⟩ ?_
 intro f29 W30 rs_ hAL_ st33 hbl34 hv31 hf32
 have hn_ : rs_ = [] := hAL_
 subst hn_
 try simp only [cap_, sB] at st33
 have h1_ : ∀ v ∈ (CD.drop (oD + (k + 1) * 8)).take ((xs.length - (k + 1)) * 8), v.oneCell' = true := fun v hv => (st33.get 1 rfl).1.one v (aO7 hv (by show (k + 1) * 8 + (xs.length - (k + 1)) * 8 ≤ xs.length * 8; omega))
 refine sg (yK (α := Run) (i := k) (m := xs.length - (k + 1)) (oy := oD + (k + 1) * 8) (q := xs.length - 1) fJ (hv31 2 22 dE rfl) (hv31 5 25 dE rfl) (fun _ => rfl) aA aA (by show oD + (k + 1) * 8 + (xs.length - (k + 1)) * 8 ≤ CD.length; have hl_ : oD + xs.length * 8 ≤ CD.length := hlD; omega) (by show oD + k * 8 + (xs.length - (k + 1)) * 8 ≤ CD.length; have hl_ : oD + xs.length * 8 ≤ CD.length := hlD; omega) h1_ st33 ?_); intro W36 st37
 refine sg (aW (v := .slice (some ⟨bD, oD, none⟩) (xs.length - 1) cD) rfl (aF (wp_seq (aC (rn st37 4 (Ag.cons (show f29 7 = I ((xs.length : Nat) : Int) from ((hf32 7 rfl).trans (h10_.at 7))) Ag.nil).put.put [] [(27, .slice (some ⟨bD, oD, none⟩) (xs.length - 1) cD), (29, I (((xs.length - 1) : Nat) : Int)), (30, I ((xs.length : Nat) : Int))] [.l (.slice (some ⟨bD, oD, none⟩) (xs.length - 1) cD) (xs.length - 1) ⟨_, _, rfl⟩] aB fun f41 h41_ => (sg (aY2 (l := xs.length - 1) (h := xs.length) fJ (h41_.at 27) (h41_.at 29) (h41_.at 30) aA aA aA aA aA ?_)))))))
 refine sgn (oZ (s := 8) (zs := [I 0, I 0, I 0, I 0, I 0, .slice none 0 0, I 0, .slice none 0 0]) underlying25 aB rfl aA (by intro v hv; simp only [mem_cons, not_mem_nil, or_false] at hv; rcases hv with rfl | rfl | rfl | rfl | rfl | rfl | rfl | rfl <;> rfl) rfl aA st37 (by rw [cY]; have hl_ : oD + xs.length * 8 ≤ CD.length := hlD; show oD + (xs.length - 1) * 8 + (xs.length - (xs.length - 1)) * 8 ≤ _; omega) ?_); intro ZD W42 hZD st43
 refine aF (wp_seq (aC (sg (bB (h41_.at 0) (sg (aW (v := .slice (some ⟨bD, oD, none⟩) (xs.length - 1) cD) rfl (aF (wr (vN results317 rfl ?_)))))))))
 have hE_ := (st43.get 1 rfl).1.erase hk
 obtain ⟨f1, f2, f3, hfe_, hE3⟩ := hE_
 have hs_ := st43.f1.es_sub (fe' := f1 ++ f3) (by rw [hfe_]; exact (List.Sublist.refl _).append (sublist_append_right _ _)) hE3
 have hq_ := St.ownShut' (off := oD) (cap := cD) (m := xs.length - 1) hs_.f1 (zW hk hlD (by rw [hZD, show xs.length - (xs.length - 1) = 1 by omega]; rfl)).symm (by rw [length_eraseIdx_of_lt hk]) aA hmD
 obtain ⟨fpz, stz⟩ := hq_
 exact ⟨_, fpz, rfl, stz⟩
theorem n4 (n : Nat) (h : n ≤ 8388611) : n + 40 ≤ maxLen ∧ (n + 40) * 8 ≤ 140737488355328 := by unfold maxLen; omega
abbrev aR1 : ByteArray := ⟨#[110, 101, 120, 116]⟩
abbrev logN : ByteArray := ⟨#[108, 111, 103]⟩
abbrev markN : ByteArray := ⟨#[109, 97, 114, 107]⟩
def withD (e : Engine) (d : Disk) : Engine := ⟨e.yard, d, e.next, e.calls, e.waits, e.state, e.broken⟩
noncomputable def aK5 (d : Disk) (nm : ByteArray) : Disk × Bool := if 0 ≤ fAt d.files nm then uJ d nm 0 else (d, true)
noncomputable def opF (e : Engine) (k : Int) : Disk × Bool :=
 if k = 0 then aK5 e.disk aR1 else if k = 4 then aK5 e.disk logN else if k = 1 then aB3 e.disk aR1 (markT (e.next - 1) (yardT e.yard)) else if k = 2 then aO5 e.disk aR1 else aR8 e.disk aR1 markN
noncomputable def vY (e : Engine) (k : Int) : Engine × Bool :=
 if ¬ (engOk e = true ∧ e.state = 1 ∧ inB k 0 4 = true) then (e, false) else if e.broken = true then (brk e, false) else (withD e (opF e k).1, (opF e k).2)
def small (d : Disk) : Prop := d.files.length ≤ 4 ∧ ∀ f ∈ d.files, f.wt ≤ 60010
theorem lO {d : Disk} (h : jC d = true) {f : File} (hf : f ∈ d.files) : f.name.size ≤ 10 ∧ f.data.size ≤ 60000 := by
 obtain ⟨k, hk⟩ := mem_iff_getElem?.1 hf
 have h1 := ((diskOk_iff.1 h).ok k f hk)
 have h2 := h1.name
 have h3 := h1.data
 unfold aR5 inB at h2
 simp only [Bool.and_eq_true, decide_eq_true_eq] at h2
 omega
theorem aH6 {d : Disk} (h : jC d = true) : small d := ⟨sI h, fun f hf => by have := lO h hf; unfold File.wt; omega⟩
theorem yM {d : Disk} (h : jC d = true) {k : Nat} {y : File} (hy : y.wt ≤ 60010) : small ⟨d.files.set k y⟩ := ⟨by show (d.files.set k y).length ≤ 4; rw [length_set]; exact sI h, fun f hf => by
 rcases mem_or_eq_of_mem_set hf with h1 | rfl
 ·exact (aH6 h).2 f h1
 ·exact hy⟩
theorem aR6 {d : Disk} (h : jC d = true) {k : Nat} {to : ByteArray} (ht : to.size ≤ 10) : ∀ i, ∀ f ∈ mvG d.files k to i, f.wt ≤ 60010
 | 0, f, hf => by cases hf
 | i + 1, f, hf => by
  have ih := aR6 h (k := k) ht i
  have hf : f ∈ (match d.files[i]? with | some g => if g.name = to then mvG d.files k to i else mvG d.files k to i ++ [if i = k then mvF g to else g] | none => mvG d.files k to i) := hf
  split at hf
  ·rename_i g hg
   have hs := lO h (mem_of_getElem? hg)
   split at hf
   ·exact ih f hf
   ·rcases mem_append.1 hf with h1 | h1
    ·exact ih f h1
    ·rw [mem_singleton] at h1
     subst h1
     split
     ·show to.size + g.data.size ≤ 60010; omega
     ·unfold File.wt; omega
  ·exact ih f hf
theorem write_s (d : Disk) (nm more : ByteArray) : (aB3 d nm more).1 = d ∨ small (aB3 d nm more).1 := by
 unfold aB3
 split
 ·rename_i h; exact .inr (aH6 h.2)
 exact .inl rfl
theorem sync_s (d : Disk) (nm : ByteArray) : (aO5 d nm).1 = d ∨ small (aO5 d nm).1 := by
 unfold aO5
 split
 ·rename_i h
  unfold synD
  simp only
  split
  ·rename_i f hf
   have := lO h.2 (mem_of_getElem? hf)
   exact .inr (yM h.2 (by show f.name.size + f.data.size ≤ _; omega))
  exact .inl rfl
 exact .inl rfl
theorem cut_s (d : Disk) (nm : ByteArray) (n : Int) : (uJ d nm n).1 = d ∨ small (uJ d nm n).1 := by
 unfold uJ
 split
 ·rename_i h
  unfold cutD
  simp only
  split
  ·rename_i f hf
   have := lO h.2.1 (mem_of_getElem? hf)
   exact .inr (yM h.2.1 (by show f.name.size + (f.data.extract 0 n.toNat).size ≤ _; rw [ByteArray.size_extract]; omega))
  exact .inl rfl
 exact .inl rfl
theorem move_s (d : Disk) (fr to : ByteArray) : (aR8 d fr to).1 = d ∨ small (aR8 d fr to).1 := by
 unfold aR8
 split
 ·rename_i h
  have h3 := h.2.2.2.1
  unfold aR5 inB at h3
  simp only [Bool.and_eq_true, decide_eq_true_eq] at h3
  refine .inr ⟨?_, fun f hf => aR6 h.2.1 aA _ f hf⟩
  have := aR7 d.files (fAt d.files fr).toNat to d.files.length
  have := sI h.2.1
  simp only
  omega
 exact .inl rfl
theorem aU2 (d : Disk) (nm : ByteArray) : (aK5 d nm).1 = d ∨ small (aK5 d nm).1 := by
 unfold aK5
 split
 ·exact cut_s d nm 0
 exact .inl rfl
theorem op_s (e : Engine) (k : Int) : (opF e k).1 = e.disk ∨ small (opF e k).1 := by
 unfold opF
 split
 ·exact aU2 _ _
 split
 ·exact aU2 _ _
 split
 ·exact write_s _ _ _
 split
 ·exact sync_s _ _
 exact move_s _ _ _
def lH (n a b : Int) : Int := if b < a then a else if n < a then a else min n b
theorem BroughtID (n a b : Int) : Ct1 prog 83 [.I n, .I a, .I b] [.I (lH n a b)] :=
 .one (lH n a b) (rk := fun x => [.I x]) <| vc func83 (fun hg => .s (b < a)
  (fun h => .rt a ⟨by unfold lH; rw [if_pos h], trivial⟩)
  (fun h => .s (n < a)
   (fun h2 => .rt a ⟨by unfold lH; rw [if_neg h, if_pos h2], trivial⟩)
   (fun h2 => .rt (min n b) ⟨by unfold lH; rw [if_neg h, if_neg h2], trivial⟩))) aB
theorem BroughtSD (n a b : Int) : Ct1 prog 117 [.I n, .I a, .I b] [.I (lH n a b)] :=
 .one (lH n a b) (rk := fun x => [.I x]) <| vc func117 (fun hg => .s (b < a)
  (fun h => .rt a ⟨by unfold lH; rw [if_pos h], trivial⟩)
  (fun h => .s (n < a)
   (fun h2 => .rt a ⟨by unfold lH; rw [if_neg h, if_pos h2], trivial⟩)
   (fun h2 => .s (b < n)
    (fun h3 => .rt b ⟨by unfold lH; rw [if_neg h, if_neg h2, Int.min_def, if_neg aA], trivial⟩)
    (fun h3 => .rt n ⟨by unfold lH; rw [if_neg h, if_neg h2, Int.min_def, if_pos aA], trivial⟩)))) aB
theorem bro_le (n : Int) : 0 ≤ lH n 0 5 ∧ lH n 0 5 ≤ 5 := by
 unfold lH
 rw [if_neg aA]
 split
 ·omega
 omega
noncomputable def aD1 (e : Engine) : Nat → Engine × Bool
 | 0 => (e, true)
 | k + 1 => if (aD1 e k).2 = true then vY (aD1 e k).1 k else aD1 e k
theorem mrk_step {e : Engine} {k : Nat} (h : (aD1 e k).2 = true) : aD1 e (k + 1) = vY (aD1 e k).1 k := by
 show (if _ then _ else _) = _
 rw [if_pos h]
theorem mst_yw (e : Engine) (k : Int) : (vY e k).1.yard = e.yard ∧ (vY e k).1.waits = e.waits := by
 unfold vY
 split
 ·exact ⟨rfl, rfl⟩
 split
 ·exact ⟨rfl, rfl⟩
 exact ⟨rfl, rfl⟩
theorem mst_fl (e : Engine) (k : Int) (h : e.disk.files.length ≤ 1048576) : (vY e k).1.disk.files.length ≤ 1048576 := by
 unfold vY
 split
 ·exact h
 split
 ·exact h
 show (opF e k).1.files.length ≤ _
 rcases op_s e k with h1 | h1
 ·rw [h1]; exact h
 have := h1.1; omega
structure MkJ (e : Engine) (n : Int) (g : Nat × Engine) : Prop where
 le : (g.1 : Int) ≤ lH n 0 5
 ok : aD1 e g.1 = (g.2, true)
 yard : g.2.yard = e.yard
 waits : g.2.waits = e.waits
 files : g.2.disk.files.length ≤ 1048576
 good : g.2.ok
theorem MkJ.start {e : Engine} (n : Int) (h : e.disk.files.length ≤ 1048576) (hg : e.ok) : MkJ e n (0, e) := ⟨(bro_le n).1, rfl, rfl, rfl, h, hg⟩
theorem MkJ.next_ {e : Engine} {n : Int} {g : Nat × Engine} (h : MkJ e n g) : aD1 e (g.1 + 1) = vY g.2 g.1 := by
 have := mrk_step (e := e) (k := g.1) (by rw [h.ok])
 rw [this, h.ok]
theorem MkJ.step {e : Engine} {n : Int} {g : Nat × Engine} (h : MkJ e n g) (hk : (g.1 : Int) < lH n 0 5) (ht : (vY g.2 g.1).2 = true) (hg : (vY g.2 g.1).1.ok) : MkJ e n (g.1 + 1, (vY g.2 g.1).1) := by
 have e1 := h.next_
 have h2 := mst_yw g.2 g.1
 exact ⟨by show ((g.1 + 1 : Nat) : Int) ≤ _; omega, by show aD1 e (g.1 + 1) = _; rw [e1, ← ht], h2.1.trans h.yard, h2.2.trans h.waits, mst_fl _ _ h.files, hg⟩
theorem aI6 {y : Yard} {id task try_ : Int} (h : ¬ (0 : Int) ≤ aD y id) : false = dK y id task try_ := by
 have : bF y id = none := by
  cases hi : bF y id with
  | none => rfl
  | some k => rw [bU hi] at h; omega
 unfold dK; rw [this]
theorem aI8 {y : Yard} {id task try_ : Int} {k : Nat} {r : Run} (hk : bF y id = some k) (hr : y.runs[k]? = some r) : dK y id task try_ = (inB task 0 ((r.tasks.length : Int) - 1) && (match r.tasks[task.toNat]? with | some t => decide (t.state = 3) && decide (t.try_ = try_) | none => false)) := by
 unfold dK; rw [hk]; simp only [hr] <;> rfl
theorem zK {y : Yard} {id task try_ : Int} {k : Nat} {r : Run} (hk : bF y id = some k) (hr : y.runs[k]? = some r) (h : inB task 0 ((r.tasks.length : Int) - 1) = false) : false = dK y id task try_ := by rw [aI8 hk hr, h]; rfl
theorem aI9 {y : Yard} {id task try_ : Int} {k : Nat} {r : Run} {t : Task} (hk : bF y id = some k) (hr : y.runs[k]? = some r) (h : inB task 0 ((r.tasks.length : Int) - 1) = true) (ht : r.tasks[task.toNat]? = some t) : (decide (t.state = 3) && decide (t.try_ = try_)) = dK y id task try_ := by rw [aI8 hk hr, h, ht]; rfl
theorem aS7 {y : Yard} {id task try_ : Int} {k : Nat} {r : Run} {t : Task} (hk : bF y id = some k) (hr : y.runs[k]? = some r) (h : inB task 0 ((r.tasks.length : Int) - 1) = true) (ht : r.tasks[task.toNat]? = some t) (h3 : t.state = 3) : decide (t.try_ = try_) = dK y id task try_ := by rw [← aI9 hk hr h ht, decide_eq_true h3]; rfl
theorem aI7 {y : Yard} {id task try_ : Int} {k : Nat} {r : Run} {t : Task} (hk : bF y id = some k) (hr : y.runs[k]? = some r) (h : inB task 0 ((r.tasks.length : Int) - 1) = true) (ht : r.tasks[task.toNat]? = some t) (h3 : ¬ t.state = 3) : false = dK y id task try_ := by rw [← aI9 hk hr h ht, decide_eq_false h3]; rfl
theorem aE8 (y : Yard) (id task try_ : Int) (hw : y.wt ≤ 1048576) : Ct1 prog 120 [.S y, .I id, .I task, .I try_] [.B (dK y id task try_)] :=
 .one (dK y id task try_) (rk := fun x => [.B x]) <| vc func120 (fun (hg : gin [Par.S y, Par.I id, Par.I task, Par.I try_]) => .c func232 (gR y id hw) (hg := ⟨hg.1.1, trivial⟩) fun _ => .s (aD y id < 0)
  (fun h => .rt false ⟨aI6 aA, trivial⟩)
  (fun h => .ex (qM (show (0 : Int) ≤ aD y id by omega)) fun q hq => .ye hq.2.2 (aD y id) (he := hq.2.1) fun gr => .m (q.2.tasks.length : Int) 1 (h := by have := fK hw hq.2.2; unfold I64; omega) <| .c func92 (cE task 0 ((q.2.tasks.length : Int) - 1)) fun _ =>
   .v (inB task 0 ((q.2.tasks.length : Int) - 1))
    (fun h1 => .rt false ⟨zK hq.1 hq.2.2 h1, trivial⟩)
    (fun h1 => .ye hq.2.2 (aD y id) (he := hq.2.1) fun _ => .ex (pH h1) fun t ht => .ye ht task (he := fV h1) fun _ => .s (t.state = 3)
     (fun h3 => .rt (decide (t.try_ = try_)) ⟨aS7 hq.1 hq.2.2 h1 ht h3, trivial⟩)
     (fun h3 => .rt false ⟨aI7 hq.1 hq.2.2 h1 ht h3, trivial⟩)))) aB
theorem Holds_s (y : Yard) (id task try_ : Int) (hw : y.wt ≤ 1048576) : Ct1 prog 389 [.S y, .I id, .I task, .I try_] [.B (dK y id task try_)] :=
 .one (dK y id task try_) (rk := fun x => [.B x]) <| vc func389 (fun (hg : gin [Par.S y, Par.I id, Par.I task, Par.I try_]) => .c func291 (iK y id hw) (hg := ⟨hg.1.1, trivial⟩) fun _ => .s ((0 : Int) ≤ aD y id)
  (fun h => .ex (qM h) fun q hq => .ye hq.2.2 (aD y id) (he := hq.2.1) fun gr => .m (q.2.tasks.length : Int) 1 (h := by have := fK hw hq.2.2; unfold I64; omega) <| .c func138 (InV task 0 ((q.2.tasks.length : Int) - 1)) fun _ =>
   .sb (inB task 0 ((q.2.tasks.length : Int) - 1))
    (fun h1 => .ye hq.2.2 (aD y id) (he := hq.2.1) fun _ => .ex (pH h1) fun t ht => .ye ht task (he := fV h1) fun _ => .s (t.state = 3)
     (fun h3 => .ye hq.2.2 (aD y id) (he := hq.2.1) fun _ => .ye ht task (he := fV h1) fun _ => .rt (decide (t.try_ = try_)) ⟨aS7 hq.1 hq.2.2 h1 ht h3, trivial⟩)
     (fun h3 => .rt false ⟨aI7 hq.1 hq.2.2 h1 ht h3, trivial⟩))
    (fun h1 => .rt false ⟨zK hq.1 hq.2.2 h1, trivial⟩))
  (fun h => .rt false ⟨aI6 h, trivial⟩)) aB
theorem aZ3 {y : Yard} {p : Plan} (h : ¬ (y.runs.length : Int) < 8) : false = fR y p := by unfold fR; simp [h]
theorem aZ2 {y : Yard} {p : Plan} (h : inB p.tasks 0 12 = false) : false = fR y p := by unfold fR; simp [h]
theorem aZ1 {y : Yard} {p : Plan} (h : ¬ cH y + p.tasks ≤ 40) : false = fR y p := by unfold fR; simp [h]
theorem aZ0 {y : Yard} {p : Plan} (h1 : (y.runs.length : Int) < 8) (h2 : inB p.tasks 0 12 = true) (h3 : cH y + p.tasks ≤ 40) : decide (y.seq ≤ 999999000 - p.tasks) = fR y p := by unfold fR; simp [h1, h2, h3]
theorem RoomFor_i (y : Yard) (p : Plan) (hw : y.wt ≤ 1048576) : Ct1 prog 303 [.S y, .S p] [.B (fR y p)] :=
 .one (fR y p) (rk := fun x => [.B x]) <| vc func303 (fun (hg : gin [Par.S y, Par.S p]) => let hs := yN y
  .s ((y.runs.length : Int) < 8)
  (fun h1 => .c func92 (cE p.tasks 0 12) fun _ => .sb (inB p.tasks 0 12)
   (fun h2 => let hp := inB_iff.1 h2
    .c func234 (aA7 y hw) (hg := ⟨hg.1.1, trivial⟩) fun _ => .p (cH y) p.tasks (h := by unfold I64; omega) <| .s (cH y + p.tasks ≤ 40)
    (fun h3 => .m 999999000 p.tasks (h := by unfold I64; omega) <| .rt (decide (y.seq ≤ 999999000 - p.tasks)) ⟨aZ0 h1 h2 h3, trivial⟩)
    (fun h3 => .rt false ⟨aZ1 h3, trivial⟩))
   (fun h2 => .rt false ⟨aZ2 h2, trivial⟩))
  (fun h1 => .rt false ⟨aZ3 h1, trivial⟩)) aB
theorem RoomFor_s (y : Yard) (p : Plan) (hw : y.wt ≤ 1048576) : Ct1 prog 326 [.S y, .S p] [.B (fR y p)] :=
 .one (fR y p) (rk := fun x => [.B x]) <| vc func326 (fun (hg : gin [Par.S y, Par.S p]) => let hs := yN y
  .s ((y.runs.length : Int) < 8)
  (fun h1 => .c func138 (InV p.tasks 0 12) fun _ => .sb (inB p.tasks 0 12)
   (fun h2 => let hp := inB_iff.1 h2
    .c func294 (aA6 y hw) (hg := ⟨hg.1.1, trivial⟩) fun _ => .p (cH y) p.tasks (h := by unfold I64; omega) <| .s (cH y + p.tasks ≤ 40)
    (fun h3 => .m 999999000 p.tasks (h := by unfold I64; omega) <| .rt (decide (y.seq ≤ 999999000 - p.tasks)) ⟨aZ0 h1 h2 h3, trivial⟩)
    (fun h3 => .rt false ⟨aZ1 h3, trivial⟩))
   (fun h2 => .rt false ⟨aZ2 h2, trivial⟩))
  (fun h1 => .rt false ⟨aZ3 h1, trivial⟩)) aB
theorem aD0 {id : Int} {p : Plan} (h : ¬ (inB id 1 9999 = true ∧ aG p = 0)) : (zRun, false) = (vW id p, iT id p) := by
 have : iT id p = false := by
  unfold iT
  cases h1 : inB id 1 9999 with
  | false => rfl
  | true => simp only [Bool.true_and, decide_eq_false_iff_not]; exact fun h2 => h ⟨h1, h2⟩
 rw [newR_f this, this]
theorem aR2 {id : Int} {p : Plan} (h1 : inB id 1 9999 = true) (h2 : aG p = 0) : (bC id p, true) = (vW id p, iT id p) := by
 have : iT id p = true := by unfold iT; rw [h1, decide_eq_true h2]; rfl
 rw [bA3 this, this]
theorem tR : zRun.ok := by unfold Run.ok Plan.ok zRun I64; simp
theorem yP {id : Int} {p : Plan} (h1 : inB id 1 9999 = true) (hp : p.ok) : (bC id p).ok := ⟨by have := inB_iff.1 h1; show I64 id; unfold I64; omega, hp, by show I64 1; unfold I64; omega⟩
theorem aB6 {a b c d : Int} (ha : 0 ≤ a ∧ a ≤ 100) (hb : 0 ≤ b ∧ b ≤ 100) (hc : 0 ≤ c ∧ c ≤ 100) (hd : 0 ≤ d ∧ d ≤ 100) : Task.ok ⟨a, b, c, d⟩ := ⟨by show I64 a; unfold I64; omega, by show I64 b; unfold I64; omega, by show I64 c; unfold I64; omega, by show I64 d; unfold I64; omega⟩
theorem RunNew_i (id : Int) (p : Plan) : Ct1 prog 304 [.I id, .S p] [.S (vW id p), .B (iT id p)] :=
 .one (vW id p, iT id p) (rk := fun q => [.S q.1, .B q.2]) <| vc func304 (fun (hg : gin [Par.I id, Par.S p]) => let gp : p.ok := hg.1.1
  .c func92 (cE id 1 9999) fun _ => .v (inB id 1 9999) (fun h => .rt (zRun, false) ⟨aD0 (fun z => by rw [h] at z; cases z.1), tR, trivial⟩) (fun h1 =>
  .c func302 (gF p) (hg := ⟨gp, trivial⟩) fun _ => .u (aG p = 0) (fun h => .rt (zRun, false) ⟨aD0 (fun z => h z.2), tR, trivial⟩) (fun h2 => let hp := mI h2
  .c func347 (xR p aA) (hg := ⟨gp, trivial⟩) fun _ => .wt 6 <| .r0 (inferInstance : Shape Task) 158 <|
  .l (Γ := Nat) (fun k => k ≤ p.tasks.toNat) (fun k => p.tasks.toNat - k) [3, 4, 6] [1, 2] [0] (fun k => [vI 7 k]) (fun k => [oO 3 p.edges, oR 5 158 (cF p k), oB 4 [.v (I id), .v (I p.prio), .v (I p.most), .v (I p.wait), .v (I p.tasks), .r 3, .v (I 1), .r 5]]) 0 fun k hk t => let hln := gJ p k
   .s ((k : Int) < p.tasks)
    (fun h => let hbl := hX p (k : Int)
     .c func379 (xT p k) (hg := ⟨gp, trivial⟩) fun _ => .s (((aN p (k : Int)).length : Int) = 0)
     (fun h3 => .a (cF p k) (⟨2, (aN p (k : Int)).length, 0, 0⟩ : Task) 32 (hy := aB6 aA aA aA aA) (h63 := by unfold maxLen; omega) (hby := by omega) <| .g 5 (uX h3).symm <| .p k 1 (h := by unfold I64; omega) <| .n t (k + 1) [])
     (fun h3 => .a (cF p k) (⟨1, (aN p (k : Int)).length, 0, 0⟩ : Task) 32 (hy := aB6 aA aA aA aA) (h63 := by unfold maxLen; omega) (hby := by omega) <| .g 5 (uY h3).symm <| .p k 1 (h := by unfold I64; omega) <| .n t (k + 1) []))
    (fun h => .g 5 (show cF p k = cF p p.tasks.toNat by rw [show k = p.tasks.toNat by omega]) <| .rt (bC id p, true) ⟨aR2 h1 h2, yP h1 gp, trivial⟩)))) aB
theorem RunNew_s (id : Int) (p : Plan) : Ct1 prog 327 [.I id, .S p] [.S (vW id p), .B (iT id p)] :=
 .one (vW id p, iT id p) (rk := fun q => [.S q.1, .B q.2]) <| vc func327 (fun (hg : gin [Par.I id, Par.S p]) => let gp : p.ok := hg.1.1
  .c func138 (InV id 1 9999) fun _ => .v (inB id 1 9999) (fun h => .rt (zRun, false) ⟨aD0 (fun z => by rw [h] at z; cases z.1), tR, trivial⟩) (fun h1 =>
  .c func325 (kU p) (hg := ⟨gp, trivial⟩) fun _ => .u (aG p = 0) (fun h => .rt (zRun, false) ⟨aD0 (fun z => h z.2), tR, trivial⟩) (fun h2 => let hp := mI h2
  .c func366 (xQ p aA) (hg := ⟨gp, trivial⟩) fun _ => .wt 6 <| .r0 (inferInstance : Shape Task) 158 <|
  .l (Γ := Nat) (fun k => k ≤ p.tasks.toNat) (fun k => p.tasks.toNat - k) [3, 4, 6] [1, 2] [0] (fun k => [vI 7 k]) (fun k => [oO 3 p.edges, oR 5 158 (cF p k), oB 4 [.v (I id), .v (I p.prio), .v (I p.most), .v (I p.wait), .v (I p.tasks), .r 3, .v (I 1), .r 5]]) 0 fun k hk t => let hln := gJ p k
   .s ((k : Int) < p.tasks)
    (fun h => let hbl := hX p (k : Int)
     .c func386 (aB0 p k h2) (hg := ⟨gp, trivial⟩) fun _ => .s ((0 : Int) < ((aN p (k : Int)).length : Int))
     (fun h3 => .a (cF p k) (⟨1, (aN p (k : Int)).length, 0, 0⟩ : Task) 32 (hy := aB6 aA aA aA aA) (h63 := by unfold maxLen; omega) (hby := by omega) <| .g 5 (uY (p := p) (k := k) aA).symm <| .p k 1 (h := by unfold I64; omega) <| .n t (k + 1) [])
     (fun h3 => .a (cF p k) (⟨2, (aN p (k : Int)).length, 0, 0⟩ : Task) 32 (hy := aB6 aA aA aA aA) (h63 := by unfold maxLen; omega) (hby := by omega) <| .g 5 (uX (p := p) (k := k) aA).symm <| .p k 1 (h := by unfold I64; omega) <| .n t (k + 1) []))
    (fun h => .g 5 (show cF p k = cF p p.tasks.toNat by rw [show k = p.tasks.toNat by omega]) <| .rt (bC id p, true) ⟨aR2 h1 h2, yP h1 gp, trivial⟩)))) aB
def bE : List Entry → Entry × List Entry × Bool
 | [] => (zE, [], false)
 | e :: r => (e, r, true)
theorem aO3 {xs : List Entry} (h : (xs.length : Int) = 0) : (zE, [], false) = bE xs := by
 rw [eq_nil_of_length_eq_zero (show xs.length = 0 by omega)]; rfl
theorem aF7 {xs : List Entry} {e : Entry} (h : xs[0]? = some e) : (e, xs.drop 1, true) = bE xs := by
 cases xs with
 | nil => cases h
 | cons a r => cases h; rfl
theorem TakeEntry_i (xs : List Entry) (hl : xs.length ≤ 1048576) : Ct1 prog 309 [.L xs] [.S (bE xs).1, .L (bE xs).2.1, .B (bE xs).2.2] :=
 .one (bE xs) (rk := fun q => [.S q.1, .L q.2.1, .B q.2.2]) <| vc func309 (fun hg => .s ((xs.length : Int) = 0)
  (fun h => .rt (zE, [], false) ⟨aO3 h, zE_ok, trivial⟩)
  (fun h => .x xs 0 (h := by omega) fun e he ge => .dp inferInstance xs 1 aA 1 rfl <| .c func235 (eC (xs.drop 1) (by rw [length_drop]; omega)) fun _ => .rt (e, xs.drop 1, true) ⟨aF7 he, ge, trivial⟩)) aB
theorem TakeEntry_s (xs : List Entry) (hl : xs.length ≤ 1048576) : Ct1 prog 333 [.L xs] [.S (bE xs).1, .L (bE xs).2.1, .B (bE xs).2.2] :=
 .one (bE xs) (rk := fun q => [.S q.1, .L q.2.1, .B q.2.2]) <| vc func333 (fun hg => .s ((xs.length : Int) = 0)
  (fun h => .e Entry <| .rt (zE, [], false) ⟨aO3 h, zE_ok, trivial⟩)
  (fun h => .x xs 0 (h := by omega) fun e he ge => .dp inferInstance xs 1 aA 1 rfl <| .e Entry <| .as (inferInstance : Shape Entry) dS [] (xs.drop 1) 32 (by rw [length_drop]; simp only [length_nil]; unfold maxLen; omega) (by rw [length_drop]; simp only [length_nil]; omega) <| .rt (e, xs.drop 1, true) ⟨aF7 he, ge, trivial⟩)) aB
theorem HalfOf_i (xs : List Entry) (hl : xs.length ≤ 1048576) : Ct1 prog 307 [.L xs] [.L (xs.take (bS xs)), .L (xs.drop (bS xs))] :=
 vc func307 (fun hg => let hh : bS xs ≤ xs.length := (by unfold bS; omega)
  let he : ((xs.length : Int) + 1) / 2 = (bS xs : Int) := (by unfold bS; omega)
  .p (xs.length : Int) 1 (h := by unfold I64; omega) <| .q ((xs.length : Int) + 1) 2 (h := by omega) <| .tk inferInstance xs (bS xs) hh (((xs.length : Int) + 1) / 2) he <| .dp inferInstance xs (bS xs) hh (((xs.length : Int) + 1) / 2) he <|
  .c func235 (eC (xs.take (bS xs)) (by rw [length_take]; omega)) fun _ => .c func235 (eC (xs.drop (bS xs)) (by rw [length_drop]; omega)) fun _ => .rt () ⟨trivial, trivial⟩) aB
theorem HalfOf_s (xs : List Entry) (hl : xs.length ≤ 1048576) : Ct1 prog 331 [.L xs] [.L (xs.take (bS xs)), .L (xs.drop (bS xs))] :=
 vc func331 (fun hg => let hh : bS xs ≤ xs.length := (by unfold bS; omega)
  let he : ((xs.length : Int) + 1) / 2 = (bS xs : Int) := (by unfold bS; omega)
  .p (xs.length : Int) 1 (h := by unfold I64; omega) <| .q ((xs.length : Int) + 1) 2 (h := by omega) <| .tk inferInstance xs (bS xs) hh (((xs.length : Int) + 1) / 2) he <| .dp inferInstance xs (bS xs) hh (((xs.length : Int) + 1) / 2) he <|
  let one := fun k => D.as (P := prog) (A := Unit) (R := fun _ => True ∧ rgd [Rk.L (xs.take (bS xs)), Rk.L (xs.drop (bS xs))]) (inferInstance : Shape Entry) dS [] (xs.take (bS xs)) 32 (by rw [length_take]; simp only [length_nil]; unfold maxLen; omega) (by rw [length_take]; simp only [length_nil]; omega) k
  let two := D.as (P := prog) (A := Unit) (R := fun _ => True ∧ rgd [Rk.L (xs.take (bS xs)), Rk.L (xs.drop (bS xs))]) (inferInstance : Shape Entry) dS [] (xs.drop (bS xs)) 32 (by rw [length_drop]; simp only [length_nil]; unfold maxLen; omega) (by rw [length_drop]; simp only [length_nil]; omega) (.rt () ⟨trivial, trivial⟩)
  .pm fun i => match i with
   | 0 => .e Entry <| .pm fun i => match i with
    | 4 => one <| .pm fun _ => .e Entry <| two
    | _ => .e Entry <| one <| two
   | _ => .e Entry <| .e Entry <| one <| two) aB
def PxF (xs : List Entry) (e : Entry) : Option Nat → Prop
 | none => mH xs e = xs.length
 | some k => mH xs e = k ∧ k < xs.length
structure PxJ (xs : List Entry) (e : Entry) (k : Nat) : Prop where
 le : k ≤ xs.length
 no : (xs.take k).any (fun x => !cX x e) = false
theorem PxJ.next {xs : List Entry} {e x : Entry} {k : Nat} (h : PxJ xs e k) (hx : xs[k]? = some x) (ha : cX x e = true) : PxJ xs e (k + 1) := by
 obtain ⟨hk, rfl⟩ := gsi_.1 hx
 exact ⟨hk, xK hk h.no (by rw [ha]; rfl)⟩
theorem PxJ.hit {xs : List Entry} {e x : Entry} {k : Nat} (h : PxJ xs e k) (hx : xs[k]? = some x) (ha : cX x e = false) : mH xs e = k ∧ k < xs.length := by
 obtain ⟨hk, rfl⟩ := gsi_.1 hx
 exact ⟨aH1 h.le h.no (.inr ⟨hk, ha⟩), hk⟩
theorem PxJ.all {xs : List Entry} {e : Entry} {k : Nat} (h : PxJ xs e k) (hn : ¬ (k : Int) < xs.length) : mH xs e = k ∧ k = xs.length := by
 have := h.le
 exact ⟨aH1 h.le h.no (.inl aA), by omega⟩
noncomputable def insInc (xs : List Entry) (y : Entry) (k : Nat) (hk : k ≤ xs.length) (hy : y.ok) (hxl : xs.length ≤ 1048576) (zs : List Entry) (hz : xs.take k ++ y :: xs.drop k = zs) : Inc prog 395 (fun _ : Unit => True) where
 T := fun s us K => match us with
  | [.on (.ce (.rf j h)), .on (.ce (.vl v1)), .on (.ce (.lt r b n))] => match lku s.O j, lku (bO s.O j) r with
   | some (.row i e' h' xs' fe), some (.bx b' [] cs [] t) => .e0 h h' <| .e0 e' 243 <| .e1 (⟨i, xs'⟩ : Dat) ⟨instShapeEntry, xs⟩ <| .e0 v1 (I (k : Int)) <| .e0 b b' <| .e0 n 1 <| .e0 t 243 <| .e0 (cs.map Sc.val) [I y.prio, I y.seq, I y.run, I y.task] <|
     .fn fun g : Hd × List Nat => K () (.on (.ce (.rf j g.1))) ⟨s.E, (j, .own instShapeEntry g.1 zs g.2) :: bO (bO s.O j) r, lasting s.B, s.nx⟩
   | _, _ => .no
  | _ => .no
 ok := by
  intro w0 W s us K h st fa
  split at h
  ·next j hd v1 r b n =>
   split at h
   ·next i e' h' xs' fe b' cs t hj hr =>
    obtain ⟨rfl, rfl, h2, rfl, rfl, rfl, rfl, h6, h7⟩ := h
    simp only [Dat.mk.injEq] at h2
    obtain ⟨rfl, h8, h9⟩ := h2
    obtain ⟨rfl, rfl⟩ := And.intro (eq_of_heq h8) (eq_of_heq h9)
    have st2 := St.take (rs := []) (by simpa [Or, S.rs] using st) hj
    rw [append_nil] at st2
    have st3 := (St.take (rs := [_]) (st2.perm (perm_append_comm (l₂ := [_]))) hr).perm (perm_append_comm (l₁ := [_]) (l₂ := _ :: _))
    have st3 : St w0 W (Res.row 243 hd.val xs' fe :: Res.bx b ([] ++ cs.map Sc.val ++ []) 243 :: Or (bO (bO s.O j) r)) := st3
    rw [nil_append, append_nil, h6] at st3
    obtain ⟨cl, _, hE⟩ := (st3.get 0 rfl).1
    obtain rfl := qS dS hE
    refine (InsertE k st3 hk hy hxl).mono ?_
    rintro e W' ⟨v', rfl, st'⟩
    obtain ⟨fp, st'⟩ := st'.shut
    obtain ⟨hd, rfl, _⟩ := Sl.hd (bV (st'.get 0 rfl))
    exact ⟨(), .on (.ce (.rf j hd)), _, trivial, h7 (hd, fp), rfl, by rw [← hz]; exact st', fa.lasting⟩
   exact h.elim
  exact h.elim
theorem xO (xs : List Entry) (e : Entry) (hl : xs.length ≤ 1048576) : Ct1 prog 349 [.L xs, .S e] [.L (iR xs e)] :=
 vc func349 (fun (hg : gin [Par.L xs, Par.S e]) => let ge : e.ok := hg.2.1.1
  let fin : ∀ k, mH xs e = k → k ≤ xs.length → D prog (fun _ : Unit => True ∧ rgd [Rk.L (iR xs e)]) := fun k h1 h2 => .c func235 (eC xs hl) fun _ => .iv _ func395 (insInc xs e k h2 ge hl (iR xs e) (by rw [← h1]; rfl)) fun _ _ => .rt () ⟨trivial, trivial⟩
  .in_ (R' := PxF xs e) func382 (
   .la (Γ := Nat) (PxJ xs e) (fun k => xs.length - k) (fun k => [vI 8 k]) (fun _ => []) 0 (h := ⟨Nat.zero_le _, rfl⟩) fun k hJ t => let hk := hJ.le
    .s ((k : Int) < xs.length)
     (fun h => .x xs k (h := by omega) fun x hx gx => .in_ (R' := fun _ : Unit => True) func394 (.c func341 (aW2 x e) (hg := ⟨gx, ge, trivial⟩) fun _ => .rt () trivial) fun _ _ => .v (cX x e)
      (fun h1 => .rt (some k) (hJ.hit hx h1))
      (fun h1 => .p k 1 (h := by unfold I64; omega) <| .n t (k + 1) [] (hJ.next hx h1) aA))
     (fun h => .rt none ((hJ.all h).1.trans (hJ.all h).2))) fun o => match o with
   | none => fun ho => .kt ((-1 : Int) < 0) dE <| fin xs.length ho (Nat.le_refl _)
   | some k => fun ho => .kf ((k : Int) < 0) aA <| fin k ho.1 (Nat.le_of_lt ho.2)) aB
theorem xN (xs : List Entry) (e : Entry) (hl : xs.length ≤ 1048576) : Ct1 prog 388 [.L xs, .S e] [.L (iR xs e)] :=
 .one (iR xs e) (rk := fun l => [.L l]) <| vc func388 (fun (hg : gin [Par.L xs, Par.S e]) => let ge : e.ok := hg.2.1.1
  let fin : ∀ k, mH xs e = k → k ≤ xs.length → D prog (fun l : List Entry => l = iR xs e ∧ rgd [Rk.L l]) := fun k h1 h2 => .e Entry <| .tk inferInstance xs k h2 (k : Int) rfl <| .as (inferInstance : Shape Entry) dS [] (xs.take k) 32 (by rw [length_take]; simp only [length_nil]; unfold maxLen; omega) (by rw [length_take]; simp only [length_nil]; omega) <|
   .a (xs.take k) e 32 (hy := ge) (h63 := by rw [length_take]; unfold maxLen; omega) (hby := by rw [length_take]; omega) <| .dp inferInstance xs k h2 (k : Int) rfl <| .as (inferInstance : Shape Entry) dS (xs.take k ++ [e]) (xs.drop k) 32 (by rw [length_append, length_take, length_drop]; simp only [length_cons, length_nil]; unfold maxLen; omega) (by rw [length_append, length_take, length_drop]; simp only [length_cons, length_nil]; omega) <|
   .rt (xs.take k ++ [e] ++ xs.drop k) ⟨by rw [append_assoc, ← h1]; rfl, trivial⟩
  .la (Γ := Nat) (PxJ xs e) (fun k => xs.length - k) (fun k => [vI 5 k]) (fun _ => []) 0 (h := ⟨Nat.zero_le _, rfl⟩) fun k hJ t => let hk := hJ.le
   .s ((k : Int) < xs.length)
    (fun h => .x xs k (h := by omega) fun x hx gx => .c func404 (aW1 x e) (hg := ⟨gx, ge, trivial⟩) fun _ => .sb (cX x e)
     (fun h1 => .p k 1 (h := by unfold I64; omega) <| .n t (k + 1) [] (hJ.next hx h1) aA)
     (fun h1 => fin k (hJ.hit hx h1).1 hk))
    (fun h => fin k (hJ.all h).1 hk)) aB
def wA (a b : List Entry) (k : Nat) : List Entry := (b.take k).foldl iR a
theorem aH9 (a b : List Entry) (k : Nat) : (wA a b k).length ≤ a.length + b.length := by
 unfold wA; rw [oP, length_take]; omega
theorem zB {a b : List Entry} {k : Nat} {e : Entry} (h : b[k]? = some e) : iR (wA a b k) e = wA a b (k + 1) := by
 obtain ⟨hk, rfl⟩ := gsi_.1 h
 unfold wA; rw [foldl_put_to hk]
theorem aI0 {a b : List Entry} {k : Nat} (h : ¬ (80 : Int) < (a.length : Int) + b.length) (hk : ¬ (k : Int) < b.length) : wA a b k = cL a b := by
 unfold wA cL; rw [if_neg aA, take_of_length_le aA]
theorem mg_no {a b : List Entry} (h : (80 : Int) < (a.length : Int) + b.length) : a = cL a b := by unfold cL; rw [if_pos aA]
theorem Merged_i (a b : List Entry) (ha : a.length ≤ 1048576) (hb : b.length ≤ 1048576) : Ct1 prog 308 [.L a, .L b] [.L (cL a b)] :=
 vc func308 (fun hg => .c func235 (eC a ha) fun _ => .p (a.length : Int) (b.length : Int) (h := by unfold I64; omega) <| .s ((80 : Int) < (a.length : Int) + b.length)
  (fun h => .g 2 (show a = cL a b from mg_no h) <| .rt () ⟨trivial, trivial⟩)
  (fun h => .wt 18 <| .sh 2 <| .l (Γ := Nat) (fun k => k ≤ b.length) (fun k => b.length - k) [17, 18] [] [0, 1] (fun k => [vR 5 2, vI 19 k]) (fun k => [oO 2 (wA a b k)]) 0 fun k hk t => let hln := aH9 a b k
   .s ((k : Int) < b.length)
    (fun h2 => .x b k (h := by omega) fun e he ge => .c func349 (xO (wA a b k) e aA) (hg := ⟨ge, trivial⟩) fun _ => .g 5 (zB (a := a) he) <| .p k 1 (h := by unfold I64; omega) <| .n t (k + 1) [(2, 5)])
    (fun h2 => .g 2 (aI0 (a := a) (b := b) (k := k) h h2) <| .rt () ⟨trivial, trivial⟩))) aB
theorem Merged_s (a b : List Entry) (ha : a.length ≤ 1048576) (hb : b.length ≤ 1048576) : Ct1 prog 332 [.L a, .L b] [.L (cL a b)] :=
 vc func332 (fun hg => .e Entry <| .as (inferInstance : Shape Entry) dS [] a 32 (by simp only [length_nil]; unfold maxLen; omega) (by simp only [length_nil]; omega) <| .p (a.length : Int) (b.length : Int) (h := by unfold I64; omega) <| .s ((80 : Int) < (a.length : Int) + b.length)
  (fun h => .g 2 (show ([] : List Entry) ++ a = cL a b from mg_no h) <| .rt () ⟨trivial, trivial⟩)
  (fun h => .sh 2 <| .l (Γ := Nat) (fun k => k ≤ b.length) (fun k => b.length - k) [1] [] [0, 1] (fun k => [vR 5 2, vI 6 k]) (fun k => [oO 2 (wA a b k)]) 0 fun k hk t => let hln := aH9 a b k
   .s ((k : Int) < b.length)
    (fun h2 => .x b k (h := by omega) fun e he ge => .c func388 (xN (wA a b k) e aA) (hg := ⟨ge, trivial⟩) fun _ => .g 4 (zB (a := a) he) <| .p k 1 (h := by unfold I64; omega) <| .n t (k + 1) [(2, 4)])
    (fun h2 => .g 2 (aI0 (a := a) (b := b) (k := k) h h2) <| .rt () ⟨trivial, trivial⟩))) aB
theorem vic_step {home draw : Int} {k : Nat} (h : k < 3) : (aZ home draw).take k ++ [kX home draw k] = (aZ home draw).take (k + 1) := by
 match k, h with
 | 0, _ => rfl
 | 1, _ => rfl
 | 2, _ => rfl
theorem bD6 {home : Int} (h : 0 ≤ home ∧ home ≤ 3) : I (lH home 0 3) = I home := by
 unfold lH; rw [if_neg aA, if_neg aA, Int.min_def, if_pos aA]
theorem Victims_i (home draw : Int) (hh : 0 ≤ home ∧ home ≤ 3) (hd : I64 draw) : Ct1 prog 306 [.I home, .I draw] [.L (aZ home draw)] :=
 vc func306 (fun hg => let hm : 0 ≤ max draw 0 ∧ max draw 0 ≤ 9223372036854775807 := (by unfold I64 at hd; omega)
  .c func83 (BroughtID home 0 3) fun _ => .rv 8 (I home) (y := I (lH home 0 3)) (bD6 hh) <| .w Int 3 5 <| .l (Γ := Nat) (fun k => k ≤ 3) (fun k => 3 - k) [0, 1] [] [] (fun k => [vR 5 0, vI 6 k]) (fun k => [oR 0 3 ((aZ home draw).take k)]) 0 fun k hk t =>
   .s ((k : Int) < 3)
    (fun h => .p home 1 (h := by unfold I64; omega) <| .q (max draw 0) 3 (h := by omega) <| .p (max draw 0 % 3) (k : Int) (h := by unfold I64; omega) <| .q (max draw 0 % 3 + k) 3 (h := by omega) <| .p (home + 1) ((max draw 0 % 3 + k) % 3) (h := by unfold I64; omega) <| .q (home + 1 + (max draw 0 % 3 + k) % 3) 4 (h := by omega) <|
     .a ((aZ home draw).take k) (kX home draw k) 8 (hy := by have := uP home draw k hh; show I64 _; unfold I64; omega) (h63 := by rw [length_take]; unfold maxLen; omega) (hby := by rw [length_take]; omega) <| .g 0 (vic_step (home := home) (draw := draw) (k := k) aA) <| .p k 1 (h := by unfold I64; omega) <| .n t (k + 1) [])
    (fun h => .g 0 (show (aZ home draw).take k = aZ home draw by rw [show k = 3 by omega]; rfl) <| .rt () ⟨trivial, trivial⟩)) aB
structure VtJ (id : Int) (g : Int × List UInt8) : Prop where
 rng : 0 ≤ g.1 ∧ g.1 ≤ 1000000000
 vb : g.2 ++ aM g.1.toNat = aM id.toNat
theorem VtJ.len {id : Int} {g : Int × List UInt8} (h : VtJ id g) (hb : inB id 0 1000000000 = true) : g.2.length ≤ 5 := by
 have h1 := inB_iff'.1 hb
 have h2 := oE 4 id.toNat aA
 rw [← h.vb, length_append] at h2
 omega
theorem VtJ.step {id : Int} {g : Int × List UInt8} (h : VtJ id g) (h2 : 128 ≤ g.1) {e : Int} (he : e = g.1 % 128 + 128) : VtJ id (g.1 / 128, g.2 ++ [dF e]) := by
 have h1 := h.rng
 refine ⟨⟨by show 0 ≤ g.1 / 128; omega, by show g.1 / 128 ≤ _; omega⟩, ?_⟩
 show g.2 ++ [dF e] ++ aM (g.1 / 128).toNat = _
 rw [← h.vb, kH (n := g.1.toNat) aA, append_assoc, he]
 unfold dF
 rw [show ((g.1 % 128 + 128) % 256).toNat = 128 + g.1.toNat % 128 by omega, show (g.1 / 128).toNat = g.1.toNat / 128 by omega]; rfl
theorem VtJ.all {id : Int} {g : Int × List UInt8} (h : VtJ id g) (h2 : ¬ 128 ≤ g.1) (hb : inB id 0 1000000000 = true) : (⟨(g.2 ++ [dF g.1]).toArray⟩ : ByteArray) = bM id := by
 have h1 := h.rng
 unfold bM dF
 rw [if_pos hb, ← h.vb, fH aA, show (g.1 % 256).toNat = g.1.toNat by omega]
theorem vt_no {n : Int} (h : inB n 0 1000000000 = false) : (⟨#[]⟩ : ByteArray) = bM n := by unfold bM; rw [h]; rfl
theorem sh_0 {id : Int} (h : bM id = ⟨#[]⟩) : 0 = aO id := by unfold aO; rw [if_pos h]
theorem sh_1 {id : Int} (h : ¬ bM id = ⟨#[]⟩) : jV (bM id) % 4 = aO id := by unfold aO; rw [if_neg h]
theorem VarText_i (id : Int) : Ct1 prog 202 [.I id] [.T (bM id)] :=
 .one (bM id) (rk := fun a => [.T a]) <| vc func202 (fun hg => .c func92 (cE id 0 1000000000) fun _ => .v (inB id 0 1000000000)
  (fun hb => .rt ⟨#[]⟩ ⟨vt_no hb, trivial⟩)
  (fun hb => .w UInt8 5 3 <| .la (Γ := Int × List UInt8) (VtJ id) (fun g => g.1.toNat) (fun g => [vI 0 g.1, vR 3 0]) (fun g => [oR 0 5 g.2]) (id, []) (h := ⟨inB_iff'.1 hb, rfl⟩) fun g hJ t =>
   let hl := hJ.len hb
   let hr := hJ.rng
   .s (128 ≤ g.1)
    (fun h => .q g.1 128 (h := by omega) <| .p (g.1 % 128) 128 (h := by unfold I64; omega) <| .pc (uI (t := 3) (t' := 5) (g.1 % 128 + 128) rfl underlying5) <| .a g.2 (dF (g.1 % 128 + 128)) 1 (hy := trivial) (h63 := by unfold maxLen; omega) (hby := by omega) <|
     .q g.1 128 (h := by omega) <| .n t (g.1 / 128, g.2 ++ [dF (g.1 % 128 + 128)]) [] (h1 := hJ.step h rfl) (h2 := by show (g.1 / 128).toNat < _; omega))
    (fun h => .pc (uI (t := 3) (t' := 5) g.1 rfl underlying5) <| .a g.2 (dF g.1) 1 (hy := trivial) (h63 := by unfold maxLen; omega) (hby := by omega) <| .so (g.2 ++ [dF g.1]) <| .rt ⟨(g.2 ++ [dF g.1]).toArray⟩ ⟨hJ.all h hb, trivial⟩))) aB
theorem VarText_s (id : Int) : Ct1 prog 214 [.I id] [.T (bM id)] :=
 .one (bM id) (rk := fun a => [.T a]) <| vc func214 (fun hg => .c func138 (InV id 0 1000000000) fun _ => .v (inB id 0 1000000000)
  (fun hb => .rt ⟨#[]⟩ ⟨vt_no hb, trivial⟩)
  (fun hb => .e UInt8 <| .l (Γ := Int × List UInt8) (VtJ id) (fun g => g.1.toNat) [777777, 7] [777777] [777777] (fun g => [vI 0 g.1, vR 3 0]) (fun g => [oR 0 5 g.2]) (id, []) (h := ⟨inB_iff'.1 hb, rfl⟩) fun g hJ t =>
   let hl := hJ.len hb
   let hr := hJ.rng
   .s (127 < g.1)
    (fun h => .q g.1 128 (h := by omega) <| .p 128 (g.1 % 128) (h := by unfold I64; omega) <| .pc (uI (t := 3) (t' := 5) (128 + g.1 % 128) rfl underlying5) <| .a g.2 (dF (128 + g.1 % 128)) 1 (hy := trivial) (h63 := by unfold maxLen; omega) (hby := by omega) <|
     .q g.1 128 (h := by omega) <| .n t (g.1 / 128, g.2 ++ [dF (128 + g.1 % 128)]) [] (h1 := hJ.step aA (Int.add_comm _ _)) (h2 := by show (g.1 / 128).toNat < _; omega))
    (fun h => .pc (uI (t := 3) (t' := 5) g.1 rfl underlying5) <| .a g.2 (dF g.1) 1 (hy := trivial) (h63 := by unfold maxLen; omega) (hby := by omega) <| .so (g.2 ++ [dF g.1]) <| .rt ⟨(g.2 ++ [dF g.1]).toArray⟩ ⟨hJ.all aA hb, trivial⟩))) aB
theorem ShelfOf_i (id : Int) : Ct1 prog 348 [.I id] [.I (aO id)] :=
 .one (aO id) (rk := fun a => [.I a]) <| vc func348 (fun hg => let hv := pT id
  let hr := yG (bM id)
  .c func202 (VarText_i id) fun _ => .s (bM id = ⟨#[]⟩)
  (fun h => .rt 0 ⟨sh_0 h, trivial⟩)
  (fun h => .c func197 (SumOf_i (bM id) aA) fun _ => .q (jV (bM id)) 4 (h := by omega) <| .rt (jV (bM id) % 4) ⟨sh_1 h, trivial⟩)) aB
theorem ShelfOf_s (id : Int) : Ct1 prog 387 [.I id] [.I (aO id)] :=
 .one (aO id) (rk := fun a => [.I a]) <| vc func387 (fun hg => let hv := pT id
  let hr := yG (bM id)
  .c func214 (VarText_s id) fun _ => .s (bM id = ⟨#[]⟩)
  (fun h => .rt 0 ⟨sh_0 h, trivial⟩)
  (fun h => .c func216 (SumOf_s (bM id) aA) fun _ => .q (jV (bM id)) 4 (h := by omega) <| .rt (jV (bM id) % 4) ⟨sh_1 h, trivial⟩)) aB
def dJ (ts : List Task) (k : Nat) : List Task := ts.mapIdx (fun j t => if j < k then dC t else t)
theorem leaveSTo_zero (ts : List Task) : dJ ts 0 = ts := by
 apply ext_getElem?; intro i
 simp [dJ, getElem?_mapIdx]
theorem leaveSTo_len (ts : List Task) (k : Nat) : (dJ ts k).length = ts.length := by simp [dJ]
theorem tK {ts : List Task} {k : Nat} {t : Task} (h : ts[k]? = some t) : (dJ ts k)[k]? = some t := by simp [dJ, getElem?_mapIdx, h]
theorem leaveSTo_set {ts : List Task} {k : Nat} {t y : Task} (h : ts[k]? = some t) (hy : dC t = y) : (dJ ts k).set k y = dJ ts (k + 1) := by
 apply ext_getElem?; intro i
 obtain ⟨hl, rfl⟩ := gsi_.1 h
 simp only [dJ, getElem?_set, getElem?_mapIdx, length_mapIdx]
 by_cases e : k = i
 ·subst e; simp [hl, hy]
 rw [if_neg e]
 cases hi : ts[i]? with
 | none => rfl
 | some u =>
  have : (i < k) ↔ (i < k + 1) := by omega
  simp [this]
theorem leaveSTo_all (ts : List Task) : dJ ts ts.length = bZ ts := by
 apply ext_getElem?; intro i
 simp only [dJ, bZ, getElem?_mapIdx, getElem?_map]
 cases hi : ts[i]? with
 | none => rfl
 | some u => have := (gsi_.1 hi).1; simp [this]
theorem leaveS1_t {t : Task} (h : ¬ t.state = 4) (h2 : ¬ t.state = 5) : dC t = fF t := by unfold dC; rw [if_neg (by simp [h, h2])]
theorem leaveS1_4 {t : Task} (h : t.state = 4) : dC t = t := by unfold dC; rw [if_pos (.inl h)]
theorem leaveS1_5 {t : Task} (h : t.state = 5) : dC t = t := by unfold dC; rw [if_pos (.inr h)]
noncomputable def fB (r : Run) (task : Int) : Bool := cU r && (inB task 0 ((r.tasks.length : Int) - 1) && (match r.tasks[task.toNat]? with | some t => decide (t.state = 3) | none => false))
theorem vD {r : Run} {task : Int} (h : fB r task = true) : RunIs r ∧ ∃ t, 0 ≤ task ∧ r.tasks[task.toNat]? = some t ∧ t.state = 3 := by
 unfold fB at h
 simp only [Bool.and_eq_true] at h
 obtain ⟨h1, h2, h3⟩ := h
 refine ⟨runIs.1 h1, ?_⟩
 cases hq : r.tasks[task.toNat]? with
 | none => rw [hq] at h3; cases h3
 | some t => rw [hq] at h3; exact ⟨t, (inB_iff'.1 h2).1, rfl, by simpa using h3⟩
noncomputable def bG (r : Run) (task : Int) : Run := if fB r task then wS r task.toNat else r

def bP (r r' : Run) (k : Nat) : List Int := (cT r'.tasks 2 k).filter (fun t => !decide (t ∈ aK r.tasks 2))
theorem freshTo_zero (r r' : Run) : bP r r' 0 = [] := rfl
theorem freshTo_len (r r' : Run) (k : Nat) : (bP r r' k).length ≤ k := Nat.le_trans (length_filter_le _ _) (eZ _ _ _)
theorem tin_mem {ts : List Task} {s : Int} {k : Nat} : (k : Int) ∈ aK ts s ↔ ∃ h : k < ts.length, ts[k].state = s := by
 unfold aK cT
 rw [mem_filterMap]
 constructor
 ·rintro ⟨a, ha, h⟩
  rw [mem_range] at ha
  split at h
  ·next e =>
   simp only [Option.some.injEq] at h
   have : a = k := by omega
   subst this
   rw [getElem?_eq_getElem ha] at e
   exact ⟨ha, by simpa using e⟩
  cases h
 rintro ⟨h, e⟩
 exact ⟨k, by simpa using h, by rw [if_pos (by rw [getElem?_eq_getElem h]; simpa using e)]⟩
theorem wN {r r' : Run} {k : Nat} (h : k < r'.tasks.length) (hs : ¬ r'.tasks[k].state = 2) : bP r r' (k + 1) = bP r r' k := by unfold bP; rw [rQ h hs]
theorem freshTo_f2 {r r' : Run} {k : Nat} (h : k < r'.tasks.length) (h2 : k < r.tasks.length) (hs : r.tasks[k].state = 2) : bP r r' (k + 1) = bP r r' k := by
 by_cases hq : r'.tasks[k].state = 2
 ·unfold bP
  rw [nB h hq, filter_append]
  have : (k : Int) ∈ aK r.tasks 2 := tin_mem.2 ⟨h2, hs⟩
  simp [this]
 exact wN h hq
theorem zQ {r r' : Run} {k : Nat} (h : k < r'.tasks.length) (hs : r'.tasks[k].state = 2) (hn : r.tasks.length ≤ k ∨ ∃ h2 : k < r.tasks.length, ¬ r.tasks[k].state = 2) : bP r r' (k + 1) = bP r r' k ++ [(k : Int)] := by
 unfold bP
 rw [nB h hs, filter_append]
 have : ¬ (k : Int) ∈ aK r.tasks 2 := fun hm => by
  obtain ⟨h2, e⟩ := tin_mem.1 hm
  rcases hn with hn | ⟨_, hn⟩
  ·omega
  exact hn e
 simp [this]
structure StJ (sh : Nat) (prio id : Int) (xss : List (List Entry)) (seq : Int) (ts : List Int) (g : Int × List (List Entry)) : Prop where
 sq : g.1 = seq + (ts.length : Int)
 sl : g.2 = eU sh prio id ts xss seq
theorem StJ.start {sh : Nat} {prio id : Int} {xss : List (List Entry)} {seq : Int} : StJ sh prio id xss seq [] (seq, xss) := ⟨by simp, rfl⟩
theorem StJ.at {sh : Nat} {prio id : Int} {xss : List (List Entry)} {seq : Int} {ts : List Int} {g : Int × List (List Entry)} (h : StJ sh prio id xss seq ts g) (hs : sh < xss.length) : ∃ l, g.2[sh]? = some l ∧ l.length = (xss.getD sh []).length + ts.length := by
 refine ⟨g.2.getD sh [], getD_some (by rw [h.sl, jX]; exact hs), by rw [h.sl]; exact jY sh prio id ts xss seq hs⟩
theorem StJ.step {sh : Nat} {prio id : Int} {xss : List (List Entry)} {seq : Int} {ts : List Int} {g : Int × List (List Entry)} (h : StJ sh prio id xss seq ts g) {l : List Entry} (hl : g.2[sh]? = some l) (t : Int) : StJ sh prio id xss seq (ts ++ [t]) (g.1 + 1, g.2.set sh (iR l ⟨prio, g.1, id, t⟩)) := by
 have e : g.2.getD sh [] = l := by rw [getD_eq_getElem?_getD, hl]; rfl
 refine ⟨by show g.1 + 1 = _; rw [h.sq, length_append]; simp only [length_singleton]; omega, ?_⟩
 show g.2.set sh _ = _
 rw [sX, ← h.sl, ← h.sq, e]
theorem bC6 {a b c d : Int} (ha : I64 a) (hb : I64 b) (hc : I64 c) (hd : I64 d) : Entry.ok ⟨a, b, c, d⟩ := ⟨ha, hb, hc, hd⟩
theorem fr_f1 {was r : Run} {k : Nat} {t : Task} (ht : r.tasks[k]? = some t) (h : ¬ t.state = 2) : bP was r (k + 1) = bP was r k := by
 obtain ⟨hk, rfl⟩ := gsi_.1 ht; exact wN hk h
theorem fr_f2 {was r : Run} {k : Nat} {t u : Task} (ht : r.tasks[k]? = some t) (hu : was.tasks[k]? = some u) (h : u.state = 2) : bP was r (k + 1) = bP was r k := by
 obtain ⟨hk, rfl⟩ := gsi_.1 ht
 obtain ⟨hk2, rfl⟩ := gsi_.1 hu; exact freshTo_f2 hk hk2 h
theorem fr_t1 {was r : Run} {k : Nat} {t : Task} (ht : r.tasks[k]? = some t) (h : t.state = 2) (hl : ¬ (k : Int) < was.tasks.length) : bP was r (k + 1) = bP was r k ++ [(k : Int)] := by
 obtain ⟨hk, rfl⟩ := gsi_.1 ht; exact zQ hk h (.inl aA)
theorem fr_t2 {was r : Run} {k : Nat} {t u : Task} (ht : r.tasks[k]? = some t) (h : t.state = 2) (hu : was.tasks[k]? = some u) (h2 : ¬ u.state = 2) : bP was r (k + 1) = bP was r k ++ [(k : Int)] := by
 obtain ⟨hk, rfl⟩ := gsi_.1 ht
 obtain ⟨hk2, rfl⟩ := gsi_.1 hu; exact zQ hk h (.inr ⟨hk2, h2⟩)
abbrev pO (r : Run) (ts : List Int) (seq : Int) (xss : List (List Entry)) (q : Int × List (List Entry)) : Prop := q = (seq + (ts.length : Int), eU (aO r.id).toNat r.plan.prio r.id ts xss seq)
theorem stk_q {r : Run} {ts : List Int} {seq : Int} {xss : List (List Entry)} {k : Nat} {g : Int × List (List Entry)} (h : StJ (aO r.id).toNat r.plan.prio r.id xss seq (ts.take k) g) (hk : ¬ (k : Int) < ts.length) : pO r ts seq xss g := by
 have h1 := h.sq
 have h2 := h.sl
 rw [take_of_length_le aA] at h1 h2
 exact Prod.ext h1 h2
noncomputable def aY3 (yb sn rn : Nat) (now seq : Int) (xss : List (List Entry)) (r : Run) (ts : List Int) (hs : 4 ≤ xss.length) (hln : (xss.getD (aO r.id).toNat []).length + ts.length ≤ 1048576) (hsq : 0 ≤ seq ∧ seq ≤ 4000000000) (gr : r.ok) : D prog (pO r ts seq xss) :=
 let hsr := fA r.id
 .c func348 (ShelfOf_i r.id) fun _ =>
  .la (Γ := Nat × Int × List (List Entry)) (fun g => g.1 ≤ ts.length ∧ StJ (aO r.id).toNat r.plan.prio r.id xss seq (ts.take g.1) g.2) (fun g => ts.length - g.1) (fun g => [vI 14 g.1]) (fun g => [oO sn g.2.2, oB yb [.v (I now), .v (I g.2.1), .r sn, .r rn]]) (0, seq, xss) (h := ⟨Nat.zero_le _, StJ.start⟩) fun g hJ tk =>
   let hq := hJ.2.sq
   let htl : (ts.take g.1).length ≤ ts.length := (by rw [length_take]; omega)
   .s ((g.1 : Int) < ts.length)
    (fun h => .ex (hJ.2.at aA) fun l hl => .x ts g.1 (h := by omega) fun t ht gt => .d sn hl.1 fun _ => .ie (aO r.id).toNat (aO r.id) (he := by omega) <|
     .c func349 (xO l ⟨r.plan.prio, g.2.1, r.id, t⟩ (by have := hl.2; omega)) (hg := ⟨bC6 gr.2.1.1 (by unfold I64; omega) gr.1 gt, trivial⟩) fun _ => .ie (aO r.id).toNat (aO r.id) (he := by omega) <| .wt 42 <| .f sn g.2.2 (iR l ⟨r.plan.prio, g.2.1, r.id, t⟩) (h := trivial) <|
     .p g.2.1 1 (h := by unfold I64; omega) <| .p g.1 1 (h := by unfold I64; omega) <| .n tk (g.1 + 1, g.2.1 + 1, g.2.2.set (aO r.id).toNat (iR l ⟨r.plan.prio, g.2.1, r.id, t⟩)) [] (h1 := ⟨by show g.1 + 1 ≤ _; omega, by show StJ _ _ _ _ _ (ts.take (g.1 + 1)) _; rw [← cG ht]; exact hJ.2.step hl.1 t⟩) (h2 := by show ts.length - (g.1 + 1) < _; omega))
    (fun h => .rt g.2 (stk_q hJ.2 h))
def mW (r r' : Run) (j : Nat) : List Int := ((aK r'.tasks 2).take j).filter (fun t => !decide (t ∈ aK r.tasks 2))
theorem chgTo_len (r r' : Run) (j : Nat) : (mW r r' j).length ≤ j := Nat.le_trans (length_filter_le _ _) (by rw [length_take]; omega)
theorem chgTo_t {r r' : Run} {j : Nat} {v : Int} (h : (aK r'.tasks 2)[j]? = some v) (hn : ¬ v ∈ aK r.tasks 2) : mW r r' j ++ [v] = mW r r' (j + 1) := by
 unfold mW
 rw [← cG h, filter_append]
 simp [hn]
theorem chgTo_f {r r' : Run} {j : Nat} {v : Int} (h : (aK r'.tasks 2)[j]? = some v) (hn : v ∈ aK r.tasks 2) : mW r r' j = mW r r' (j + 1) := by
 unfold mW
 rw [← cG h, filter_append]
 simp [hn]
theorem chgTo_e {r r' : Run} {j : Nat} (h : ¬ (j : Int) < (aK r'.tasks 2).length) : mW r r' j = dD r r' := by
 unfold mW dD
 rw [take_of_length_le aA]
noncomputable def uL (yb sn rn w : Nat) (now seq : Int) (xss : List (List Entry)) (runs : List Run) (k : Nat) (ki : Int) (hki : ki = k) (r r' : Run) (hr : runs[k]? = some r) (hrl : r.tasks.length ≤ 1000) (hrl' : r'.tasks.length ≤ 1000) (gr : r.ok) (gr' : r'.ok) (hs : 4 ≤ xss.length) (hln : (xss.getD (aO r'.id).toNat []).length ≤ 1000000) (hsq : 0 ≤ seq ∧ seq ≤ 4000000000)
  (how : D prog (pO r' (dD r r') seq xss) → D prog (pO r' (dD r r') seq xss)) : D prog (pO r' (dD r r') seq xss) :=
 let hti : (aK r'.tasks 2).length ≤ r'.tasks.length := eZ r'.tasks 2 r'.tasks.length
 let hff := kN r r'
 .d rn hr fun _ => .ie k ki (he := hki) <| .c func30 (iA r 2 aA) (hg := ⟨gr, trivial⟩) fun _ => .ie k ki (he := hki) <| how <| .w Int 3 7 <| .ie k ki (he := hki) <| .c func30 (iA r' 2 aA) (hg := ⟨gr', trivial⟩) fun _ =>
  .la (Γ := Nat) (fun j => j ≤ (aK r'.tasks 2).length) (fun j => (aK r'.tasks 2).length - j) (fun j => [vI 35 j, vR 7 w]) (fun j => [oR w 3 (mW r r' j)]) 0 fun j hj t => let hcl := chgTo_len r r' j
   .s ((j : Int) < (aK r'.tasks 2).length)
    (fun h => .x (aK r'.tasks 2) j (h := by omega) fun v hv gv => .c func230 (aW0 (aK r.tasks 2) v (by have := eZ r.tasks 2 r.tasks.length; show (cT r.tasks 2 r.tasks.length).length ≤ _; omega)) fun _ => .u (v ∈ aK r.tasks 2)
     (fun h2 => .a (mW r r' j) v 8 (h63 := by unfold maxLen; omega) (hby := by omega) <| .g w (chgTo_t hv h2) <| .p j 1 (h := by unfold I64; omega) <| .n t (j + 1) [])
     (fun h2 => .g w (chgTo_f hv h2) <| .p j 1 (h := by unfold I64; omega) <| .n t (j + 1) []))
    (fun h => .g w (chgTo_e (r := r) h) <| .ie k ki (he := hki) <| .in_ func237 (aY3 yb sn rn now seq xss r' (dD r r') hs aA hsq gr') fun q hq => .wt 999 <| .f rn runs r' (h := gr') <| .rt q hq)
theorem lay_q {was r : Run} {seq : Int} {xss : List (List Entry)} {k : Nat} {g : Int × List (List Entry)} (h : StJ (aO r.id).toNat r.plan.prio r.id xss seq (bP was r k) g) (hk : k ≤ r.tasks.length) (hn : ¬ (k : Int) < r.tasks.length) : pO r (dD was r) seq xss g := by
 have e : bP was r k = dD was r := by rw [show k = r.tasks.length by omega]; rfl
 exact Prod.ext (by rw [← e]; exact h.sq) (by rw [← e]; exact h.sl)
noncomputable def layD (z : Bool) (b sn rn : Nat) (now seq : Int) (xss : List (List Entry)) (was r : Run) (hs : 4 ≤ xss.length) (hln : (xss.getD (aO r.id).toNat []).length ≤ 1000000) (hrl : r.tasks.length ≤ 1000) (hsq : 0 ≤ seq ∧ seq ≤ 4000000000) (gr : r.ok) (hz : z = true → was.tasks = []) : D prog (pO r (dD was r) seq xss) :=
 let hsr := fA r.id
 .c func387 (ShelfOf_s r.id) fun _ =>
  .la (Γ := Nat × Int × List (List Entry)) (fun g => g.1 ≤ r.tasks.length ∧ StJ (aO r.id).toNat r.plan.prio r.id xss seq (bP was r g.1) g.2) (fun g => r.tasks.length - g.1) (fun g => [vI 8 g.1]) (fun g => [oO sn g.2.2, oB b [.v (I now), .v (I g.2.1), .r sn, .r rn]]) (0, seq, xss) (h := ⟨Nat.zero_le _, by rw [freshTo_zero]; exact StJ.start⟩) fun g hJ tk =>
   let hq := hJ.2.sq
   let hfl := freshTo_len was r g.1
   .s ((g.1 : Int) < r.tasks.length)
    (fun h => .x r.tasks g.1 (h := by omega) fun t ht gt =>
     let skip : bP was r (g.1 + 1) = bP was r g.1 → D prog (pO r (dD was r) seq xss) := fun hf => .p g.1 1 (h := by unfold I64; omega) <| .n tk (g.1 + 1, g.2) [] (h1 := ⟨by show g.1 + 1 ≤ _; omega, by show StJ _ _ _ _ _ (bP was r (g.1 + 1)) _; rw [hf]; exact hJ.2⟩) (h2 := by show r.tasks.length - (g.1 + 1) < _; omega)
     let put : bP was r (g.1 + 1) = bP was r g.1 ++ [(g.1 : Int)] → D prog (pO r (dD was r) seq xss) := fun hf => .ex (hJ.2.at aA) fun l hl => .d sn hl.1 fun _ => .ie (aO r.id).toNat (aO r.id) (he := by omega) <|
      .c func388 (xN l ⟨r.plan.prio, g.2.1, r.id, g.1⟩ (by have := hl.2; omega)) (hg := ⟨bC6 gr.2.1.1 (by unfold I64; omega) gr.1 (by unfold I64; omega), trivial⟩) fun _ => .ie (aO r.id).toNat (aO r.id) (he := by omega) <| .wt 60 <| .f sn g.2.2 (iR l ⟨r.plan.prio, g.2.1, r.id, g.1⟩) (h := trivial) <|
      .p g.2.1 1 (h := by unfold I64; omega) <| .p g.1 1 (h := by unfold I64; omega) <| .n tk (g.1 + 1, g.2.1 + 1, g.2.2.set (aO r.id).toNat (iR l ⟨r.plan.prio, g.2.1, r.id, g.1⟩)) [] (h1 := ⟨by show g.1 + 1 ≤ _; omega, by show StJ _ _ _ _ _ (bP was r (g.1 + 1)) _; rw [hf]; exact hJ.2.step hl.1 g.1⟩) (h2 := by show r.tasks.length - (g.1 + 1) < _; omega)
     .u (t.state = 2)
      (fun h2 => skip (fr_f1 ht h2))
      (fun h2 => .s ((g.1 : Int) < was.tasks.length)
       (fun h3 => match z, hz with
        | true, hz => .ab (by rw [hz rfl] at h3; simp at h3; omega)
        | false, _ => .x was.tasks g.1 (h := by omega) fun u hu gu => .s (u.state = 2)
         (fun h4 => skip (fr_f2 ht hu h4))
         (fun h4 => put (fr_t2 ht h2 hu h4)))
       (fun h3 => put (fr_t1 ht h2 h3))))
    (fun h => .rt g.2 (lay_q hJ.2 hJ.1 h))
theorem aB5 {y : Yard} {k : Nat} {was r : Run} {q : Int × List (List Entry)} (hq : pO r (dD was r) y.seq y.shelf q) : (⟨y.now, q.1, q.2, y.runs.set k r⟩ : Yard) = cC y k was r := by
 have hq : q = _ := hq
 rw [hq]; rfl
theorem aE5 (y : Yard) (e : Int) (k : Nat) (was r : Run) (he : e = k) (hk : y.runs[k]? = some was) (hss : 4 ≤ y.shelf.length) (hrl : r.tasks.length ≤ 1000) (hln : (y.shelf.getD (aO r.id).toNat []).length ≤ 1000000) (hsq : 0 ≤ y.seq ∧ y.seq ≤ 4000000000) (gr : r.ok) (gy : (cC y k was r).ok) :
  Cw prog 336 [.ow inferInstance y, .bw (.I e), .ow inferInstance r] (fun _ : Unit => True) (fun _ => [.S (cC y k was r)]) :=
 Cw.one (cC y k was r) (rk := fun x => [.S x]) <| vcw func336 (fun hg => .d 1 hk fun gw => .ie k e (he := he) <| .ie k e (he := he) <| .in_ func328 (layD false 11 0 1 y.now y.seq y.shelf was r hss hln hrl hsq gr (fun z => by cases z)) fun q hq =>
  .wt 999 <| .f 1 y.runs r (h := gr) <| .rt ⟨y.now, q.1, q.2, y.runs.set k r⟩ ⟨aB5 hq, by rw [aB5 hq]; exact gy, trivial⟩) aB
theorem as_b {P : Program} {F : FuncId} {ps : List Par} {b : Bool} {w : World} {us : List Value} (C : Ct1 P F ps [.B b]) (hp : Pars w us ps) : Calls P F us.toArray w fun e w' => e = .returned (.bool b) ∧ St w w' [] := (C.run w us trivial hp).mono fun e W ⟨_, vs, rs, _, he, hr, st⟩ => by
 match vs, hr with
 | [u], hr =>
  obtain ⟨r1, r2, ⟨h1, h4⟩, h2, h3⟩ := hr
  have h2 : r2 = [] := h2
  subst h1 h4 h2 h3
  exact ⟨he, st⟩
theorem as_s {P : Program} {F : FuncId} {ps : List Par} {x : Yard} {w : World} {us : List Value} (C : Ct1 P F ps [.S x]) (hp : Pars w us ps) : Calls P F us.toArray w fun e w' => ∃ (cs' : List Value) (fp' : List Nat), e = .returned (.agg cs'.toArray) ∧ St w w' [Res.own (.agg cs'.toArray) x fp'] := (C.run w us trivial hp).mono fun e W ⟨_, vs, rs, _, he, hr, st⟩ => by
 match vs, hr with
 | [u], hr =>
  obtain ⟨r1, r2, h1, h2, h3⟩ := hr
  obtain ⟨cs, fp, hv1, hr1⟩ := h1
  have h2 : r2 = [] := h2
  subst h2 h3 hr1 hv1
  have st2 : St w W (Res.cs cs x fp :: []) := st
  exact ⟨cs, fp, he, st2.trade1 rfl fun h => ⟨⟨cs, rfl, h.1⟩, h.2⟩⟩
theorem CopyYardR_i (y : Yard) (hw : y.wt ≤ 1048576) : Ct1 prog 119 [.S y] [.cl [.v (I y.now), .v (I y.seq), .o (inferInstance : Shape (List Entry)) y.shelf, .r (inferInstance : Shape Run) 55 y.runs]] :=
 vc func119 (fun (hg : gin [Par.S y]) => let hb := cV y hw
  .wt 14 <| .r0 (inferInstance : Shape (List Entry)) 217 <| .l (Γ := Nat) (fun k => k ≤ y.shelf.length) (fun k => y.shelf.length - k) [1, 2, 3, 14, 15] [2, 3] [0, 1] (fun k => [vI 16 k]) (fun k => [oR 5 217 (y.shelf.take k), oB 4 [.v (I y.now), .v (I y.seq), .r 5, .v (.slice none 0 0)]]) 0 fun k hk t =>
   .s ((k : Int) < y.shelf.length)
    (fun h => .x y.shelf k (h := by omega) fun l hl gl => .c func235 (eC l (gC hl hw)) fun _ => .a (y.shelf.take k) l 24 (hy := trivial) (h63 := by rw [length_take]; unfold maxLen; omega) (hby := by rw [length_take]; omega) <| .g 5 (cG hl) <| .p k 1 (h := by unfold I64; omega) <| .n t (k + 1) [])
    (fun h => .g 5 (iO h) <| .r0 (inferInstance : Shape Run) 55 <| .l (Γ := Nat) (fun k => k ≤ y.runs.length) (fun k => y.runs.length - k) [1, 2, 3, 29, 30] [2, 3] [0, 1] (fun k => [vI 31 k]) (fun k => [oR 5 217 y.shelf, oR 6 55 (y.runs.take k), oB 4 [.v (I y.now), .v (I y.seq), .r 5, .r 6]]) 0 fun k hk t =>
     .s ((k : Int) < y.runs.length)
      (fun h2 => .x y.runs k (h := by omega) fun r hr gr => let hrl := fK hw hr
       .c func236 (sP r hrl.2.2 hrl.2.1) (hg := ⟨gr, trivial⟩) fun _ => .a (y.runs.take k) r 96 (hy := gr) (h63 := by rw [length_take]; unfold maxLen; omega) (hby := by rw [length_take]; omega) <| .g 6 (cG hr) <| .p k 1 (h := by unfold I64; omega) <| .n t (k + 1) [])
      (fun h2 => .g 6 (iO h2) <| .rt () ⟨trivial, trivial⟩))) aB
theorem YardOkT {y : Yard} (hc : Shape.C w cs y fp) (hw : y.wt ≤ 1048576) :
  Calls prog 185 #[.agg cs.toArray] w fun e w' => e = .returned (.bool (aI y)) ∧ St w w' [] := as_b (us := [.agg cs.toArray]) (iU y hw) ⟨⟨cs, fp, rfl, hc⟩, trivial⟩
theorem CopyYardT {y : Yard} (hc : Shape.C w cs y fp) (hw : y.wt ≤ 1048576) :
  Calls prog 184 #[.agg cs.toArray] w fun e w' => ∃ (cs' : List Value) (fp' : List Nat), e = .returned (.agg cs'.toArray) ∧ St w w' [Res.own (.agg cs'.toArray) y fp'] := as_s (us := [.agg cs.toArray]) (dN y hw) ⟨⟨cs, fp, rfl, hc⟩, trivial⟩
theorem CopyYardR_s (y : Yard) (hw : y.wt ≤ 1048576) : Ct1 prog 184 [.S y] [.cl [.v (I y.now), .v (I y.seq), .o (inferInstance : Shape (List Entry)) y.shelf, .r (inferInstance : Shape Run) 55 y.runs]] :=
 vc func184 (fun (hg : gin [Par.S y]) => let hb := cV y hw
  .wt 4 <| .r0 (inferInstance : Shape (List Entry)) 217 <| .l (Γ := Nat) (fun k => k ≤ y.shelf.length) (fun k => y.shelf.length - k) [1, 2, 3] [2, 3] [0, 1] (fun k => [vI 4 k]) (fun k => [oR 5 217 (y.shelf.take k), oB 4 [.v (I y.now), .v (I y.seq), .r 5, .v (.slice none 0 0)]]) 0 fun k hk t =>
   .s ((k : Int) < y.shelf.length)
    (fun h => .x y.shelf k (h := by omega) fun l hl gl => let hll := gC hl hw
     .e Entry <| .as (inferInstance : Shape Entry) dS [] l 32 (by simp only [length_nil]; unfold maxLen; omega) (by simp only [length_nil]; omega) <| .a (y.shelf.take k) l 24 (hy := trivial) (h63 := by rw [length_take]; unfold maxLen; omega) (hby := by rw [length_take]; omega) <| .g 5 (cG hl) <| .p k 1 (h := by unfold I64; omega) <| .n t (k + 1) [])
    (fun h => .g 5 (iO h) <| .r0 (inferInstance : Shape Run) 55 <| .l (Γ := Nat) (fun k => k ≤ y.runs.length) (fun k => y.runs.length - k) [1, 2, 3] [2, 3] [0, 1] (fun k => [vI 5 k]) (fun k => [oR 5 217 y.shelf, oR 6 55 (y.runs.take k), oB 4 [.v (I y.now), .v (I y.seq), .r 5, .r 6]]) 0 fun k hk t =>
     .s ((k : Int) < y.runs.length)
      (fun h2 => .x y.runs k (h := by omega) fun r hr gr => let hrl := fK hw hr
       .c func288 (jS r hrl.2.2 hrl.2.1) (hg := ⟨gr, trivial⟩) fun _ => .a (y.runs.take k) r 96 (hy := gr) (h63 := by rw [length_take]; unfold maxLen; omega) (hby := by rw [length_take]; omega) <| .g 6 (cG hr) <| .p k 1 (h := by unfold I64; omega) <| .n t (k + 1) [])
      (fun h2 => .g 6 (iO h2) <| .rt () ⟨trivial, trivial⟩))) aB
def kL (t : Task) : Task := ⟨if t.need - 1 = 0 then 2 else t.state, t.need - 1, t.try_, t.until_⟩
def oU (ts : List Task) (k : Int) : List Task := match ts[k.toNat]? with | some t => ts.set k.toNat (kL t) | none => ts
def mJ (ts : List Task) (l : List Int) : List Task := l.foldl oU ts
theorem aA4 (ts : List Task) (l : List Int) : mJ ts (l.take 0) = ts := rfl
theorem behSt_at {ts : List Task} {k : Int} {t : Task} (h : ts[k.toNat]? = some t) : oU ts k = ts.set k.toNat (kL t) := by unfold oU; rw [h]
theorem aU6 {ts : List Task} {l : List Int} {j : Nat} {k : Int} {t u : Task} (hl : l[j]? = some k) (h : (mJ ts (l.take j))[k.toNat]? = some t) (hu : kL t = u) : mJ ts (l.take (j + 1)) = (mJ ts (l.take j)).set k.toNat u := by
 obtain ⟨hj, rfl⟩ := gsi_.1 hl
 rw [take_succ_eq_append_getElem hj]
 unfold mJ at h ⊢
 rw [foldl_append, foldl_cons, foldl_nil, behSt_at h, hu]
theorem aS1 {t : Task} (h : t.need - 1 = 0) : kL t = ⟨2, t.need - 1, t.try_, t.until_⟩ := by unfold kL; rw [if_pos h]
theorem aS0 {t : Task} (h : ¬ t.need - 1 = 0) : kL t = ⟨t.state, t.need - 1, t.try_, t.until_⟩ := by unfold kL; rw [if_neg h]
theorem behSt_len (ts : List Task) (k : Int) : (oU ts k).length = ts.length := by unfold oU; split <;> simp
theorem xH (ts : List Task) : ∀ l : List Int, (mJ ts l).length = ts.length
 | [] => rfl
 | k :: l => by
  show (mJ (oU ts k) l).length = _
  rw [xH _ l, behSt_len]
theorem behSt_all {P : Task → Prop} {ts : List Task} (h : ∀ t ∈ ts, P t) (hs : ∀ t, P t → P (kL t)) (k : Int) : ∀ t ∈ oU ts k, P t := by
 intro t ht
 unfold oU at ht
 split at ht
 ·next u hu =>
  rcases mem_or_eq_of_mem_set ht with h1 | rfl
  ·exact h t h1
  exact hs u (h u (mem_of_getElem? hu))
 exact h t ht
theorem xI {P : Task → Prop} (hs : ∀ t, P t → P (kL t)) : ∀ (l : List Int) {ts : List Task}, (∀ t ∈ ts, P t) → ∀ t ∈ mJ ts l, P t
 | [], ts, h => h
 | k :: l, ts, h => xI hs l (behSt_all h hs k)
theorem behSt_need {ts : List Task} {a b : Int} (h : ∀ t ∈ ts, a ≤ t.need ∧ t.need ≤ b) (k : Int) : ∀ t ∈ oU ts k, a - 1 ≤ t.need ∧ t.need ≤ b := by
 intro t ht
 unfold oU at ht
 split at ht
 ·next u hu =>
  rcases mem_or_eq_of_mem_set ht with h1 | rfl
  ·have := h t h1; omega
  have := h u (mem_of_getElem? hu)
  simp only [kL]; omega
 have := h t ht; omega
theorem aA5 : ∀ (l : List Int) {ts : List Task} {a b : Int}, (∀ t ∈ ts, a ≤ t.need ∧ t.need ≤ b) → ∀ t ∈ mJ ts l, a - l.length ≤ t.need ∧ t.need ≤ b
 | [], ts, a, b, h => fun t ht => by have := h t ht; simp; omega
 | k :: l, ts, a, b, h => fun t ht => by
  have := aA5 l (behSt_need h k) t ht
  simp only [length_cons]; omega
noncomputable def bT (r : Run) (i : Nat) (t : Task) : List Task := mJ (r.tasks.set i ⟨4, t.need, t.try_, 0⟩) (aV r.plan (i : Int))
noncomputable def aK1 (r : Run) (i : Nat) (t : Task) : Run := ⟨r.id, r.plan, if aL (bT r i t) 4 = ((bT r i t).length : Int) then 2 else r.state, bT r i t⟩
noncomputable def fT (r : Run) (i : Nat) : Run := match r.tasks[i]? with | some t => aK1 r i t | none => r
theorem wV {r : Run} {i : Nat} {t : Task} (h : r.tasks[i]? = some t) : fT r i = aK1 r i t := by unfold fT; rw [h]
theorem pK (r : Run) (i : Nat) (t : Task) : (bT r i t).length = r.tasks.length := by unfold bT; rw [xH, length_set]
theorem kR (r : Run) (i : Nat) : (fT r i).id = r.id ∧ (fT r i).plan = r.plan ∧ (fT r i).tasks.length = r.tasks.length ∧ ((fT r i).state = r.state ∨ (fT r i).state = 2) := by
 unfold fT
 split
 ·next t h =>
  refine ⟨rfl, rfl, pK r i t, ?_⟩
  show (if _ then (2 : Int) else r.state) = _ ∨ (if _ then (2 : Int) else r.state) = _
  split
  ·exact .inr rfl
  exact .inl rfl
 exact ⟨rfl, rfl, rfl, .inl rfl⟩
theorem doneR_ok {r : Run} (h : r.ok) (i : Nat) : (fT r i).ok := by
 obtain ⟨h1, h2, h3, h4⟩ := kR r i
 unfold Run.ok at h ⊢
 rw [h1, h2]
 refine ⟨h.1, h.2.1, ?_⟩
 rcases h4 with h4 | h4
 ·rw [h4]; exact h.2.2
 rw [h4]; unfold I64; omega
theorem doneT_state {r : Run} (h : RunIs r) {i : Nat} {t : Task} (ht : r.tasks[i]? = some t) (h3 : t.state = 3) : bH (bT r i t) = (if aL (bT r i t) 4 = ((bT r i t).length : Int) then 2 else r.state) := by
 have hm := mem_of_getElem? ht
 have hl := h.live hm h3
 have h56 : ∀ u ∈ bT r i t, ¬ u.state = 5 ∧ ¬ u.state = 6 := by
  unfold bT
  refine xI (P := fun u => ¬ u.state = 5 ∧ ¬ u.state = 6) (fun u hu => ?_) _ (fun u hu => ?_)
  ·unfold kL; simp only; split
   ·omega
   exact hu
  rcases mem_or_eq_of_mem_set hu with h1 | rfl
  ·exact h.none5 hm h3 u h1
  exact ⟨by show ¬ (4 : Int) = 5; omega, by show ¬ (4 : Int) = 6; omega⟩
 have c5 := sK (s := 5) (fun u hu => (h56 u hu).1)
 have c6 := sK (s := 6) (fun u hu => (h56 u hu).2)
 unfold bH
 by_cases c4 : aL (bT r i t) 4 = ((bT r i t).length : Int)
 ·rw [if_pos c4, if_pos c4]
 rw [if_neg c4, if_neg c4, if_neg aA, if_neg aA, if_pos ⟨c5, c6⟩, hl.1]
theorem doneTs_st {r : Run} (h : RunIs r) {i : Nat} {t : Task} (ht : r.tasks[i]? = some t) : ∀ u ∈ bT r i t, 1 ≤ u.state ∧ u.state ≤ 6 := by
 unfold bT
 refine xI (P := fun u => 1 ≤ u.state ∧ u.state ≤ 6) (fun u hu => ?_) _ (fun u hu => ?_)
 ·unfold kL; simp only; split
  ·omega
  exact hu
 rcases mem_or_eq_of_mem_set hu with h1 | rfl
 ·obtain ⟨k, hk, rfl⟩ := getElem_of_mem h1
  exact (h.task k hk hk).1
 exact ⟨by show (1 : Int) ≤ 4; omega, by show (4 : Int) ≤ 6; omega⟩
theorem RunIs.need {r : Run} (h : RunIs r) : ∀ t ∈ r.tasks, 0 ≤ t.need ∧ t.need ≤ 30 := by
 intro t ht
 obtain ⟨k, hk, rfl⟩ := getElem_of_mem ht
 have h2 := (h.task k hk hk).2.1
 have h3 := vX r (aN r.plan (k : Int))
 have h4 := hX r.plan (k : Int)
 rw [h2]; unfold fD; omega
theorem done_need {r : Run} (h : RunIs r) {i : Nat} {t : Task} (ht : r.tasks[i]? = some t) (l : List Int) (hl : l.length ≤ 30) : ∀ u ∈ mJ (r.tasks.set i ⟨4, t.need, t.try_, 0⟩) l, -30 ≤ u.need ∧ u.need ≤ 30 := by
 intro u hu
 have := aA5 l (a := 0) (b := 30) (fun u hu => by
  rcases mem_or_eq_of_mem_set hu with h1 | rfl
  ·exact h.need u h1
  exact h.need t (mem_of_getElem? ht)) u hu
 omega
theorem aO1 {i : Int} (h : 0 ≤ i) : ((i.toNat : Nat) : Int) = i := Int.toNat_of_nonneg h
theorem yE {t : Task} {a : Int} (g : t.ok) (ha : 0 ≤ a ∧ a ≤ 100) : Task.ok ⟨a, t.need, t.try_, 0⟩ := ⟨by show I64 a; unfold I64; omega, g.2.1, g.2.2.1, by show I64 0; unfold I64; omega⟩
theorem wC {r : Run} (h : RunIs r) : r.plan.edges.length ≤ 1048576 ∧ r.tasks.length ≤ 1048576 := by have := h.small; omega
theorem rd_ts {r : Run} {task : Int} {t : Task} {k : Nat} (h0 : 0 ≤ task) (hk : k = (aV r.plan task).length) : mJ (r.tasks.set task.toNat ⟨4, t.need, t.try_, 0⟩) ((aV r.plan task).take k) = bT r task.toNat t := by
 unfold bT; rw [aO1 h0, hk, take_length]
theorem rd_in {r : Run} {task : Int} {t : Task} (hR : RunIs r) (ht : r.tasks[task.toNat]? = some t) (k : Nat) (hk : k < (aV r.plan task).length) : ∃ q : Int × Task, (aV r.plan task)[k]? = some q.1 ∧ (mJ (r.tasks.set task.toNat ⟨4, t.need, t.try_, 0⟩) ((aV r.plan task).take k))[q.1.toNat]? = some q.2 ∧ 0 ≤ q.1 ∧ (-30 ≤ q.2.need ∧ q.2.need ≤ 30) := by
 have hb := behind_rng r.plan task _ (getElem_mem hk)
 have hl := xH (r.tasks.set task.toNat ⟨4, t.need, t.try_, 0⟩) ((aV r.plan task).take k)
 rw [length_set] at hl
 have hil := hR.len
 have hx : (aV r.plan task)[k].toNat < (mJ (r.tasks.set task.toNat ⟨4, t.need, t.try_, 0⟩) ((aV r.plan task).take k)).length := by omega
 exact ⟨((aV r.plan task)[k], _), getElem?_eq_getElem hk, getElem?_eq_getElem hx, hb.1, done_need hR ht _ (by rw [length_take]; have := pM r.plan task; omega) _ (getElem_mem hx)⟩
theorem tU {u : Task} (g : u.ok) (h : -30 ≤ u.need ∧ u.need ≤ 30) (s : Int) (hs : I64 s) : Task.ok ⟨s, u.need - 1, u.try_, u.until_⟩ := ⟨hs, by show I64 (u.need - 1); unfold I64; omega, g.2.2.1, g.2.2.2⟩
abbrev runB (r : Run) (ts : List Task) (b e t : Nat) : List (Nat × To) := [oB b [.v (I r.id), .v (I r.plan.prio), .v (I r.plan.most), .v (I r.plan.wait), .v (I r.plan.tasks), .r e, .v (I r.state), .r t], oO t ts]
theorem leaveTo_end {ts : List Task} {b : Int} {k : Nat} (hk : k ≤ ts.length) (h : ¬ (k : Int) < ts.length) : fU ts b k = eL ts b := by rw [show k = ts.length by omega, leaveTo_all]
theorem leaveOne_ok {u : Task} (g : u.ok) : (fF u).ok := ⟨by show I64 6; unfold I64; omega, g.2.1, g.2.2.1, by show I64 0; unfold I64; omega⟩
theorem aV7 (r : Run) (b : Int) (hl : r.tasks.length ≤ 1048576) : Cm prog 238 [.I b] inferInstance r (fun _ : Unit => True) (fun _ => leaveR r b) (fun _ => []) :=
 vcm func238 (fun hg hn => .wt 11 <| .g 2 (leaveTo_zero r.tasks b).symm <| .l (Γ := Nat) (fun k => k ≤ r.tasks.length) (fun k => r.tasks.length - k) [0, 1, 10] [1, 1000000] [] (fun k => [vI 11 k]) (fun k => runB r (fU r.tasks b k) 0 1 2) 0 fun k hk t =>
  .s ((k : Int) < r.tasks.length)
   (fun h => .ex (p := fun u => r.tasks[k]? = some u) ⟨_, getElem?_eq_getElem (show k < r.tasks.length by omega)⟩ fun u hu => .d 2 (leaveTo_at (but := b) hu) fun gu =>
    let fin : ∀ v : Task, eM b k u = v → Task.ok v → D prog (fun _ : Unit => True ∧ rgd []) := fun v hv gv => .p k 1 (h := by unfold I64; omega) <| .wt 36 <| .f 2 (fU r.tasks b k) v (h := gv) <| .g 2 (leaveTo_set hu hv) <| .n t (k + 1) []
    .i k <| .u ((k : Int) = b)
     (fun h1 => .u (u.state = 4) (fun h2 => fin (fF u) (leaveIf_t h1 h2) (leaveOne_ok gu)) (fun h2 => fin u (leaveIf_d h2) gu))
     (fun h1 => fin u (leaveIf_b h1) gu))
   (fun h => .g 2 (leaveTo_end (b := b) hk h) <| .rt () ⟨trivial, trivial⟩)) aB
theorem fl_a {r : Run} {i : Int} {t : Task} (ht : r.tasks[i.toNat]? = some t) (h : t.try_ < r.plan.most) : (⟨r.id, r.plan, r.state, r.tasks.set i.toNat ⟨2, t.need, t.try_, 0⟩⟩ : Run) = bI r i.toNat := by rw [sH ht]; unfold lX; rw [if_pos h]
theorem fl_b {r : Run} {i : Int} {t : Task} (h0 : 0 ≤ i) (ht : r.tasks[i.toNat]? = some t) (h : ¬ t.try_ < r.plan.most) : (⟨r.id, r.plan, 3, eL (r.tasks.set i.toNat ⟨5, t.need, t.try_, 0⟩) i⟩ : Run) = bI r i.toNat := by rw [sH ht]; unfold lX; rw [if_neg h, aO1 h0]
theorem aE9 (r : Run) (i : Int) (t : Task) (h0 : 0 ≤ i) (ht : r.tasks[i.toNat]? = some t) (hl : r.tasks.length ≤ 1048576) : Cm prog 123 [.I i] inferInstance r (fun _ : Unit => True) (fun _ => bI r i.toNat) (fun _ => []) :=
 Cm.one (bI r i.toNat) (y := fun a => a) (rk := fun _ => []) <| vcm func123 (fun hg hn => .d 2 ht fun gt => .ie i.toNat i (he := by omega) <| .s (t.try_ < r.plan.most)
  (fun h => .wt 999 <| .f 2 r.tasks ⟨2, t.need, t.try_, 0⟩ (h := yE gt aA) <| .rt ⟨r.id, r.plan, r.state, r.tasks.set i.toNat ⟨2, t.need, t.try_, 0⟩⟩ ⟨fl_a ht h, trivial⟩)
  (fun h => .wt 30 <| .f 2 r.tasks ⟨5, t.need, t.try_, 0⟩ (h := yE gt aA) <| .cm _ func238 (aV7 ⟨r.id, r.plan, r.state, r.tasks.set i.toNat ⟨5, t.need, t.try_, 0⟩⟩ i (by show (r.tasks.set _ _).length ≤ _; rw [length_set]; exact hl)) trivial fun _ _ _ _ =>
   .rt ⟨r.id, r.plan, 3, eL (r.tasks.set i.toNat ⟨5, t.need, t.try_, 0⟩) i⟩ ⟨fl_b h0 ht h, trivial⟩)) aB
theorem dn_a {r : Run} {i : Int} {t : Task} (ht : r.tasks[i.toNat]? = some t) (h : ((aK (bT r i.toNat t) 4).length : Int) = ((bT r i.toNat t).length : Int)) : (⟨r.id, r.plan, 2, bT r i.toNat t⟩ : Run) = fT r i.toNat := by
 rw [wV ht]; unfold aK1; rw [if_pos (by rw [← iN]; exact h)]
theorem dn_b {r : Run} {i : Int} {t : Task} (ht : r.tasks[i.toNat]? = some t) (h : ¬ ((aK (bT r i.toNat t) 4).length : Int) = ((bT r i.toNat t).length : Int)) : (⟨r.id, r.plan, r.state, bT r i.toNat t⟩ : Run) = fT r i.toNat := by
 rw [wV ht]; unfold aK1; rw [if_neg (by rw [← iN]; exact h)]
theorem Done_p (r : Run) (i : Int) (t : Task) (h0 : 0 ≤ i) (ht : r.tasks[i.toNat]? = some t) (hR : RunIs r) : Cm prog 312 [.I i] inferInstance r (fun _ : Unit => True) (fun _ => fT r i.toNat) (fun _ => []) :=
 Cm.one (fT r i.toNat) (y := fun a => a) (rk := fun _ => []) <| vcm func312 (fun hg hn => let gr := hR.small.1
  let hl := (wC hR).2
  .d 2 ht fun gt => .ie i.toNat i (he := by omega) <| .ie i.toNat i (he := by omega) <| .wt 21 <| .f 2 r.tasks ⟨4, t.need, t.try_, 0⟩ (h := yE gt aA) <|
  .c func381 (BehindOf_i r.plan i) (hg := ⟨gr.2.1, trivial⟩) fun _ => .g 2 (aA4 (r.tasks.set i.toNat ⟨4, t.need, t.try_, 0⟩) (aV r.plan i)).symm <|
  .l (Γ := Nat) (fun k => k ≤ (aV r.plan i).length) (fun k => (aV r.plan i).length - k) [0, 26, 27] [1, 4, 1000000] [] (fun k => [vI 28 k]) (fun k => runB r (mJ (r.tasks.set i.toNat ⟨4, t.need, t.try_, 0⟩) ((aV r.plan i).take k)) 0 1 2) 0 fun k hk tk =>
   .s ((k : Int) < (aV r.plan i).length)
    (fun hlt => .ex (rd_in hR ht k aA) fun q hq =>
     .y hq.1 fun _ => .d 2 hq.2.1 fun gu =>
     let fin : ∀ v : Task, kL q.2 = v → Task.ok v → D prog (fun x : Run => x = fT r i.toNat ∧ rgd []) := fun v hv gv => .p k 1 (h := by have := pM r.plan i; unfold I64; omega) <| .wt 53 <| .f 2 (mJ (r.tasks.set i.toNat ⟨4, t.need, t.try_, 0⟩) ((aV r.plan i).take k)) v (h := gv) <| .g 2 (aU6 hq.1 hq.2.1 hv).symm <| .n tk (k + 1) []
     .ie q.1.toNat q.1 (he := by omega) <| .m q.2.need 1 (h := by unfold I64; omega) <| .s (q.2.need - 1 = 0)
      (fun h2 => fin ⟨2, q.2.need - 1, q.2.try_, q.2.until_⟩ (aS1 h2) (tU gu hq.2.2.2 2 (by unfold I64; omega)))
      (fun h2 => fin ⟨q.2.state, q.2.need - 1, q.2.try_, q.2.until_⟩ (aS0 h2) (tU gu hq.2.2.2 _ gu.1)))
    (fun hge => .g 2 (rd_ts (t := t) h0 (show k = (aV r.plan i).length by omega)) <| .c func30 (iA ⟨r.id, r.plan, r.state, bT r i.toNat t⟩ 4 (by show (bT r i.toNat t).length ≤ _; rw [pK]; exact hl)) (hg := ⟨gr, trivial⟩) fun _ =>
     .s (((aK (bT r i.toNat t) 4).length : Int) = ((bT r i.toNat t).length : Int))
      (fun h2 => .rt ⟨r.id, r.plan, 2, bT r i.toNat t⟩ ⟨dn_a ht h2, trivial⟩)
      (fun h2 => .rt ⟨r.id, r.plan, r.state, bT r i.toNat t⟩ ⟨dn_b ht h2, trivial⟩))) aB
theorem sZ {r : Run} (h : RunIs r) {i : Nat} {t : Task} (ht : r.tasks[i]? = some t) (h3 : t.state = 3) : bG r (i : Int) = bI r i := by
 have hl := (gsi_.1 ht).1
 have hb : fB r (i : Int) = true := by
  unfold fB
  rw [runIs.2 h, inB_iff'.2 (show 0 ≤ (i : Int) ∧ (i : Int) ≤ (r.tasks.length : Int) - 1 by omega), Int.toNat_natCast, ht]
  simp [h3]
 unfold bG
 rw [if_pos hb, Int.toNat_natCast, failsS_eq h ht h3]
theorem aG9 {y : Yard} {k i : Nat} {r : Run} (hr : y.runs[k]? = some r) (hi : i = r.tasks.length) : mG (jE y k) k i = jE y (k + 1) := by
 show _ = mG (jE y k) k (rT y k)
 rw [rS hr, hi]
theorem RI.ok {y out : Yard} {n : Nat} (hy : YardIs y) (h : RI y out n) (hn : n ≤ 1000) : out.ok := by
 have h1 := h.now; have h2 := h.seq; have h3 := hy.now; have h4 := hy.seq
 exact ⟨by unfold I64; omega, by unfold I64; omega⟩
theorem aL0 {α : Type} (f : α → Nat) (m : Nat) : ∀ xs : List α, (∀ x ∈ xs, f x ≤ m) → (xs.map f).sum ≤ xs.length * m
 | [], _ => by simp
 | x :: xs, h => by
  have h1 := h x (by simp)
  have h2 := aL0 f m xs (fun z hz => h z (by simp [hz]))
  simp only [map_cons, sum_cons, length_cons, Nat.succ_mul]
  omega
theorem RunIs.wt {r : Run} (h : RunIs r) : r.wt ≤ 42 := by
 have := h.small
 unfold Run.wt Plan.wt
 omega
theorem RI.wt {y out : Yard} {n : Nat} (hy : YardIs y) (h : RI y out n) (hn : n ≤ 1000) : out.wt ≤ 100000 := by
 have h1 := h.shelf
 have h2 := hy.shelf
 have h3 := h.runs
 have h4 := hy.runs
 have hs := aL0 (fun z : List Entry => z.length) 20000 out.shelf (fun z hz => by
  obtain ⟨s, hs, rfl⟩ := getElem_of_mem hz
  have := h.each s aA
  rw [getD_eq_getElem?_getD, getElem?_eq_getElem hs] at this
  simp only [Option.getD_some] at this
  omega)
 have hr := aL0 (fun z : Run => z.wt) 42 out.runs (fun z hz => by
  obtain ⟨s, hs, rfl⟩ := getElem_of_mem hz
  obtain ⟨r2, e, hR, _⟩ := h.run s _ (getElem?_eq_getElem (show s < y.runs.length by omega))
  rw [getElem?_eq_getElem hs] at e
  rw [Option.some.inj e]
  exact hR.wt)
 rw [h1, h2] at hs
 have hr2 : out.runs.length * 42 ≤ 8 * 42 := Nat.mul_le_mul_right _ aA
 unfold Yard.wt wtL
 omega
theorem RI.chg {y out : Yard} {n : Nat} (hy : YardIs y) (h : RI y out n) (hn : n ≤ 1000) (id : Int) : 4 ≤ out.shelf.length ∧ (out.shelf.getD (aO id).toNat []).length ≤ 1000000 ∧ (0 ≤ out.seq ∧ out.seq ≤ 4000000000) := by
 have h1 := h.shelf; have h2 := hy.shelf; have h3 := fA id; have h4 := h.each (aO id).toNat aA; have h5 := h.seq; have h6 := hy.seq
 refine ⟨by omega, by omega, by omega⟩

theorem toNat_cast {i : Int} (h : 0 ≤ i) : ((i.toNat : Nat) : Int) = i := by omega
noncomputable def eY (r : Run) (task : Int) : Run := if fB r task then fT r task.toNat else r
theorem vJ {r : Run} (h : RunIs r) {task : Int} {t : Task} (h0 : 0 ≤ task) (ht : r.tasks[task.toNat]? = some t) (h3 : t.state = 3) : eY r task = fT r task.toNat := by
 have hl := (gsi_.1 ht).1
 have hb : fB r task = true := by
  unfold fB
  rw [runIs.2 h, inB_iff'.2 (show 0 ≤ task ∧ task ≤ (r.tasks.length : Int) - 1 by omega), ht]
  simp [h3]
 unfold eY
 rw [if_pos hb]

noncomputable def cM (y : Yard) (id task try_ : Int) : Int := if aI y = false then 8 else if aD y id < 0 then 10 else if dK y id task try_ = false then 11 else 0
noncomputable def sR (g : Run → Nat → Run) (y : Yard) (id task try_ : Int) : Yard := if cM y id task try_ = 0 then (match bF y id with | some k => (match y.runs[k]? with | some r => cC y k r (g r task.toNat) | none => y) | none => y) else y
noncomputable def dI (y : Yard) (id task try_ : Int) : Yard := sR fT y id task try_
theorem askF_rng (y : Yard) (id task try_ : Int) : 0 ≤ cM y id task try_ ∧ cM y id task try_ ≤ 11 := by
 unfold cM
 split
 ·omega
 split
 ·omega
 split <;> omega
theorem xJ {y : Yard} {id task try_ : Int} (h : cM y id task try_ = 0) : YardIs y ∧ ∃ k r t, bF y id = some k ∧ y.runs[k]? = some r ∧ RunIs r ∧ 0 ≤ task ∧ r.tasks[task.toNat]? = some t ∧ t.state = 3 := by
 unfold cM at h
 split at h
 ·omega
 next h1 =>
 have hY := fW (by simpa using h1)
 split at h
 ·omega
 split at h
 ·omega
 next h3 =>
 refine ⟨hY, ?_⟩
 have h4 : dK y id task try_ = true := by simpa using h3
 unfold dK at h4
 cases hk : bF y id with
 | none => rw [hk] at h4; cases h4
 | some k =>
  rw [hk] at h4
  simp only at h4
  cases hr : y.runs[k]? with
  | none => rw [hr] at h4; cases h4
  | some r =>
   rw [hr] at h4
   simp only [Bool.and_eq_true] at h4
   obtain ⟨h5, h6⟩ := h4
   cases ht : r.tasks[task.toNat]? with
   | none => rw [ht] at h6; cases h6
   | some t => rw [ht] at h6; simp only [Bool.and_eq_true, decide_eq_true_eq] at h6; exact ⟨k, r, t, rfl, hr, (hY.run k r hr).1, (inB_iff'.1 h5).1, ht, h6.1⟩
theorem lE {g : Run → Nat → Run} {y : Yard} {id task try_ : Int} {k : Nat} {r : Run} (h : cM y id task try_ = 0) (hk : bF y id = some k) (hr : y.runs[k]? = some r) : sR g y id task try_ = cC y k r (g r task.toNat) := by unfold sR; rw [if_pos h, hk]; simp only [hr]
theorem lD {g : Run → Nat → Run} {y : Yard} {id task try_ : Int} (h : ¬ cM y id task try_ = 0) : sR g y id task try_ = y := by unfold sR; rw [if_neg h]
theorem pL {y : Yard} (hY : YardIs y) {k : Nat} {r r' : Run} (hl : r'.tasks.length ≤ 1000) : (cC y k r r').ok := by
 have h1 := hY.now; have h2 := hY.seq; have h3 := kN r r'
 unfold cC
 exact ⟨by simp only [I64]; omega, by simp only [I64]; omega⟩

noncomputable def kP (y : Yard) (id task try_ : Int) : Yard := sR bI y id task try_
theorem sY {r : Run} (h : RunIs r) {task : Int} {t : Task} (h0 : 0 ≤ task) (ht : r.tasks[task.toNat]? = some t) (h3 : t.state = 3) : bG r task = bI r task.toNat := by
 have := sZ h ht h3
 rwa [toNat_cast h0] at this
theorem failsR_ok {r : Run} (h : r.ok) (i : Nat) : (bI r i).ok := by
 unfold bI
 cases r.tasks[i]? with
 | none => exact h
 | some t =>
  show (lX r i t).ok
  unfold lX
  split
  ·exact h
  exact ⟨h.1, h.2.1, by show I64 3; unfold I64; omega⟩
noncomputable def zL (r : Run) : Bool := cU r && decide (r.state = 1)
noncomputable def gX (r : Run) : Run := if zL r = true then ⟨r.id, r.plan, 4, eL r.tasks (-1)⟩ else r
theorem aT0 {r : Run} (h : zL r = true) : gX r = ⟨r.id, r.plan, 4, eL r.tasks (-1)⟩ := by unfold gX; rw [if_pos h]
theorem RunIs.no5 {r : Run} (h : RunIs r) (h1 : r.state = 1) : ∀ u ∈ r.tasks, ¬ u.state = 5 := by
 intro u hu h5
 have c5 := wY hu h5
 have hs := h.state
 rw [h1] at hs
 unfold bH at hs
 have p6 := dH r.tasks 6
 repeat' split at hs
 all_goals omega
theorem leave_all {ts : List Task} (h : ∀ u ∈ ts, ¬ u.state = 5) : bZ ts = eL ts (-1) := by
 apply ext_getElem?
 intro k
 unfold eL bZ
 rw [getElem?_mapIdx, getElem?_map]
 cases hk : ts[k]? with
 | none => rfl
 | some u =>
  have h5 := h u (mem_of_getElem? hk)
  have e' : ¬ (k : Int) = -1 := by omega
  simp [eM, dC, h5, e']

theorem runs_no {r : Run} {task : Int} (h : cU r = false) : false = fB r task := by unfold fB; rw [h]; rfl
theorem runs_out {r : Run} {task : Int} (h : inB task 0 ((r.tasks.length : Int) - 1) = false) : false = fB r task := by unfold fB; rw [h]; simp
theorem runs_in {r : Run} {task : Int} {t : Task} (h0 : cU r = true) (h : inB task 0 ((r.tasks.length : Int) - 1) = true) (ht : r.tasks[task.toNat]? = some t) : decide (t.state = 3) = fB r task := by unfold fB; rw [h0, h, ht]; rfl
theorem bE6 (r : Run) (task : Int) : Ct1 prog 390 [.S r, .I task] [.B (fB r task)] :=
 .one (fB r task) (rk := fun x => [.B x]) <| vc func390 (fun (hg : gin [Par.S r, Par.I task]) => let hrl := hg.1.2.2.1
  .c func290 (aE7 r) (hg := ⟨hg.1.1, trivial⟩) fun _ => .sb (cU r)
  (fun h0 => .m (r.tasks.length : Int) 1 (h := by unfold I64; omega) <| .c func138 (InV task 0 ((r.tasks.length : Int) - 1)) fun _ => .sb (inB task 0 ((r.tasks.length : Int) - 1))
   (fun h1 => .ex (pH h1) fun t ht => .ye ht task (he := fV h1) fun _ => .rt (decide (t.state = 3)) ⟨runs_in h0 h1 ht, trivial⟩)
   (fun h1 => .rt false ⟨runs_out h1, trivial⟩))
  (fun h0 => .rt false ⟨runs_no h0, trivial⟩)) aB
abbrev ownRun (r : Run) : List Lr := [.v (I r.id), .v (I r.plan.prio), .v (I r.plan.most), .v (I r.plan.wait), .v (I r.plan.tasks), .o (inferInstance : Shape Edge) r.plan.edges, .v (I r.state), .o (inferInstance : Shape Task) r.tasks]
theorem aV6 (r : Run) (st : Int) (hs : I64 st) (hl : r.tasks.length ≤ 1048576) (gr : r.ok) : Co prog 392 (ownRun r) true [.I st] (fun _ : Unit => True) (fun _ => [.S (⟨r.id, r.plan, st, bZ r.tasks⟩ : Run)]) :=
 vco func392 (fun hg ho => .wt 4 <| .g 1 (leaveSTo_zero r.tasks).symm <| .l (Γ := Nat) (fun k => k ≤ r.tasks.length) (fun k => r.tasks.length - k) [1, 2, 4] [3, 1000000] [] (fun k => [vI 5 k]) (fun k => [oO 0 r.plan.edges, oO 1 (dJ r.tasks k), oB 2 [.v (I r.id), .v (I r.plan.prio), .v (I r.plan.most), .v (I r.plan.wait), .v (I r.plan.tasks), .r 0, .v (I r.state), .r 1]]) 0 fun k hk t => let hln := leaveSTo_len r.tasks k
   .s ((k : Int) < (dJ r.tasks k).length)
    (fun h => .ex (p := fun u => r.tasks[k]? = some u) ⟨_, getElem?_eq_getElem (show k < r.tasks.length by omega)⟩ fun u hu => .y (tK hu) fun gu =>
     let fin : ∀ y : Task, dC u = y → Task.ok y → D prog (fun _ : Unit => True ∧ rgd [Rk.S (⟨r.id, r.plan, st, bZ r.tasks⟩ : Run)]) := fun y hy gy => .d 1 (tK hu) fun _ => .i k <| .wt 12 <| .f 1 (dJ r.tasks k) y (h := gy) <| .g 1 (leaveSTo_set hu hy) <| .p k 1 (h := by unfold I64; omega) <| .n t (k + 1) []
     .u (u.state = 4)
      (fun h4 => .u (u.state = 5)
       (fun h5 => fin ⟨6, u.need, u.try_, 0⟩ (leaveS1_t h4 h5) ⟨by show I64 6; unfold I64; omega, (show Task.ok u from gu).2.1, (show Task.ok u from gu).2.2.1, by show I64 0; unfold I64; omega⟩)
       (fun h5 => fin u (leaveS1_5 h5) gu))
      (fun h4 => fin u (leaveS1_4 h4) gu))
    (fun h => .g 1 (show dJ r.tasks k = bZ r.tasks by rw [show k = r.tasks.length by omega]; exact leaveSTo_all _) <| .rt () ⟨trivial, ⟨gr.1, gr.2.1, hs⟩, trivial⟩)) aB
theorem rf_no {r : Run} {task : Int} (h : fB r task = false) : r = bG r task := by unfold bG; rw [if_neg (by rw [h]; simp)]
theorem rf_a {r : Run} {task : Int} {t : Task} (h : fB r task = true) (ht : r.tasks[task.toNat]? = some t) (hl : t.try_ < r.plan.most) : (⟨r.id, r.plan, r.state, r.tasks.set task.toNat ⟨2, t.need, t.try_, 0⟩⟩ : Run) = bG r task := by
 unfold bG wS; rw [if_pos h, ht]; simp only; rw [if_pos hl]
theorem rf_b {r : Run} {task : Int} {t : Task} (h : fB r task = true) (ht : r.tasks[task.toNat]? = some t) (hl : ¬ t.try_ < r.plan.most) : (⟨r.id, r.plan, 3, bZ (r.tasks.set task.toNat ⟨5, t.need, t.try_, 0⟩)⟩ : Run) = bG r task := by
 unfold bG wS; rw [if_pos h, ht]; simp only; rw [if_neg hl]
theorem pP (r : Run) (task : Int) (hl : r.plan.edges.length ≤ 1048576) (htl : r.tasks.length ≤ 1048576) : Ct1 prog 338 [.S r, .I task] [.S (bG r task)] :=
 .one (bG r task) (rk := fun x => [.S x]) <| vc func338 (fun (hg : gin [Par.S r, Par.I task]) => let gr := hg.1.1
  .c func288 (jS r hl htl) (hg := ⟨gr, trivial⟩) fun _ => .c func390 (bE6 r task) (hg := ⟨gr, trivial⟩) fun _ => .v (fB r task)
   (fun h => .rt r ⟨rf_no h, gr, trivial⟩)
   (fun h => .ex (vD h).2 fun t ht => .d 5 ht.2.1 fun gt => .ie task.toNat task (he := by omega) <| .ie task.toNat task (he := by omega) <| .ie task.toNat task (he := by omega) <| .s (t.try_ < r.plan.most)
    (fun h2 => .f 5 r.tasks ⟨2, t.need, t.try_, 0⟩ (h := yE gt aA) <| .rt ⟨r.id, r.plan, r.state, r.tasks.set task.toNat ⟨2, t.need, t.try_, 0⟩⟩ ⟨rf_a h ht.2.1 h2, gr, trivial⟩)
    (fun h2 => .ie task.toNat task (he := by omega) <| .wt 39 <| .f 5 r.tasks ⟨5, t.need, t.try_, 0⟩ (h := yE gt aA) <|
     .co _ func392 (aV6 ⟨r.id, r.plan, r.state, r.tasks.set task.toNat ⟨5, t.need, t.try_, 0⟩⟩ 3 (by unfold I64; omega) (by rw [length_set]; exact htl) gr) trivial fun _ _ hq => .rt ⟨r.id, r.plan, 3, bZ (r.tasks.set task.toNat ⟨5, t.need, t.try_, 0⟩)⟩ ⟨rf_b h ht.2.1 h2, hq.1.1, trivial⟩))) aB
theorem bE4 (y : Yard) (id task try_ : Int) (hw : y.wt ≤ 1048576) : Ct1 prog 310 [.S y, .I id, .I task, .I try_] [.I (cM y id task try_)] :=
 .one (cM y id task try_) (rk := fun x => [.I x]) <| vc func310 (fun (hg : gin [Par.S y, Par.I id, Par.I task, Par.I try_]) => .c func118 (iV y hw) (hg := ⟨hg.1.1, trivial⟩) fun _ => .v (aI y)
  (fun h => .rt 8 ⟨by unfold cM; rw [if_pos h], trivial⟩)
  (fun h => .c func232 (gR y id hw) (hg := ⟨hg.1.1, trivial⟩) fun _ => .s (aD y id < 0)
   (fun h2 => .rt 10 ⟨by unfold cM; rw [if_neg (by rw [h]; simp), if_pos h2], trivial⟩)
   (fun h2 => .c func120 (aE8 y id task try_ hw) (hg := ⟨hg.1.1, trivial⟩) fun _ => .v (dK y id task try_)
    (fun h3 => .rt 11 ⟨by unfold cM; rw [if_neg (by rw [h]; simp), if_neg h2, if_pos h3], trivial⟩)
    (fun h3 => .rt 0 ⟨by unfold cM; rw [if_neg (by rw [h]; simp), if_neg h2, if_neg (by rw [h3]; simp)], trivial⟩)))) aB
theorem Ask_s (y : Yard) (id task try_ : Int) (hw : y.wt ≤ 1048576) : Ct1 prog 335 [.S y, .I id, .I task, .I try_] [.I (cM y id task try_)] :=
 .one (cM y id task try_) (rk := fun x => [.I x]) <| vc func335 (fun (hg : gin [Par.S y, Par.I id, Par.I task, Par.I try_]) => .c func185 (iU y hw) (hg := ⟨hg.1.1, trivial⟩) fun _ => .v (aI y)
  (fun h => .rt 8 ⟨by unfold cM; rw [if_pos h], trivial⟩)
  (fun h => .c func291 (iK y id hw) (hg := ⟨hg.1.1, trivial⟩) fun _ => .s (aD y id < 0)
   (fun h2 => .rt 10 ⟨by unfold cM; rw [if_neg (by rw [h]; simp), if_pos h2], trivial⟩)
   (fun h2 => .c func389 (Holds_s y id task try_ hw) (hg := ⟨hg.1.1, trivial⟩) fun _ => .v (dK y id task try_)
    (fun h3 => .rt 11 ⟨by unfold cM; rw [if_neg (by rw [h]; simp), if_neg h2, if_pos h3], trivial⟩)
    (fun h3 => .rt 0 ⟨by unfold cM; rw [if_neg (by rw [h]; simp), if_neg h2, if_neg (by rw [h3]; simp)], trivial⟩)))) aB
theorem fail_at {y : Yard} {id task try_ : Int} {k : Nat} {r : Run} {t : Task} (h : cM y id task try_ = 0) (hk : bF y id = some k) (hr : y.runs[k]? = some r) (hR : RunIs r) (h0 : 0 ≤ task) (ht : r.tasks[task.toNat]? = some t) (h3 : t.state = 3) : cC y k r (bG r task) = kP y id task try_ := by
 unfold kP; rw [lE h hk hr, sY hR h0 ht h3]
theorem aF3 {y : Yard} (hY : YardIs y) (id : Int) : 4 ≤ y.shelf.length ∧ (y.shelf.getD (aO id).toNat []).length ≤ 1000000 ∧ (0 ≤ y.seq ∧ y.seq ≤ 4000000000) := by
 refine ⟨by rw [hY.shelf]; exact Nat.le_refl _, ?_, by have := hY.seq; omega⟩
 have h := iJ hY (aO id).toNat (by have := fA id; omega)
 omega
theorem Fail_s (y : Yard) (id task try_ : Int) (hw : y.wt ≤ 1048576) : Ct1 prog 222 [.S y, .I id, .I task, .I try_] [.S (kP y id task try_), .I (cM y id task try_)] :=
 .one (kP y id task try_, cM y id task try_) (rk := fun q => [.S q.1, .I q.2]) <| vc func222 (fun (hg : gin [Par.S y, Par.I id, Par.I task, Par.I try_]) => let gy := hg.1.1
  .c func184 (dN y hw) (hg := ⟨gy, trivial⟩) fun _ => .c func335 (Ask_s y id task try_ hw) (hg := ⟨gy, trivial⟩) fun _ => .u (cM y id task try_ = 0)
   (fun h => .rt (y, cM y id task try_) ⟨by rw [kP, lD h], gy, trivial⟩)
   (fun h => let ha := xJ h
    .ex (p := fun q : Nat × Run × Task => bF y id = some q.1 ∧ y.runs[q.1]? = some q.2.1 ∧ RunIs q.2.1 ∧ 0 ≤ task ∧ q.2.1.tasks[task.toNat]? = some q.2.2 ∧ q.2.2.state = 3) (ha.2.elim fun k hk => hk.elim fun r hr => hr.elim fun t ht => ⟨(k, r, t), ht⟩) fun q hq =>
    let hrf := sY hq.2.2.1 hq.2.2.2.1 hq.2.2.2.2.1 hq.2.2.2.2.2
    let hpre := aF3 ha.1 (bG q.2.1 task).id
    let hlen : (bG q.2.1 task).tasks.length ≤ 1000 := (by rw [hrf, (lY _ _).2.2.1]; have := hq.2.2.1.small; omega)
    .c func291 (iK y id hw) (hg := ⟨gy, trivial⟩) fun _ => .ye hq.2.1 (aD y id) (he := bU hq.1) fun gr => .c func338 (pP q.2.1 task (wC hq.2.2.1).1 (wC hq.2.2.1).2) (hg := ⟨gr, trivial⟩) fun hf =>
     .cw _ func336 (aE5 y (aD y id) q.1 q.2.1 (bG q.2.1 task) (bU hq.1) hq.2.1 hpre.1 hlen hpre.2.1 hpre.2.2 hf.1.1 (pL ha.1 hlen)) ⟨trivial, trivial⟩ fun _ _ hz => .rt (cC y q.1 q.2.1 (bG q.2.1 task), 0) ⟨by rw [fail_at h hq.1 hq.2.1 hq.2.2.1 hq.2.2.2.1 hq.2.2.2.2.1 hq.2.2.2.2.2, h], hz.1.1, trivial⟩)) aB
def mQ (n : Int) (t : Task) : Bool := decide (t.state = 3) && decide (t.until_ ≤ n + 1)
def tL (n : Int) (r : Run) (m : Nat) : List Nat := (List.range m).filter (fun i => match r.tasks[i]? with | some t => mQ n t | none => false)
def gW (y : Yard) : Nat → List (Nat × Nat)
 | 0 => []
 | k + 1 => gW y k ++ (match y.runs[k]? with | some r => (tL y.now r r.tasks.length).map (fun i => (k, i)) | none => [])
def eE (y : Yard) (p : Nat × Nat) : List Int := match y.runs[p.1]? with | some r => (match r.tasks[p.2]? with | some t => [r.id, p.2, t.try_] | none => []) | none => []
def fP (y : Yard) (k : Nat) (r : Run) (i : Nat) : List (List Int) := (gW y k ++ (tL y.now r i).map (fun j => (k, j))).map (eE y)
def bN (y : Yard) : List (Nat × Nat) := gW y y.runs.length
theorem tM (y : Yard) (k : Nat) (r : Run) : fP y k r 0 = (gW y k).map (eE y) := by simp [fP, tL]
theorem aI3 {y : Yard} {k : Nat} {r : Run} {i : Nat} {t : Task} (hr : y.runs[k]? = some r) (ht : r.tasks[i]? = some t) (h : mQ y.now t = true) : fP y k r (i + 1) = fP y k r i ++ [[r.id, (i : Int), t.try_]] := by
 unfold fP tL
 rw [range_succ, filter_append]
 simp [ht, h, eE, hr]
theorem aI4 {y : Yard} {k : Nat} {r : Run} {i : Nat} {t : Task} (ht : r.tasks[i]? = some t) (h : mQ y.now t = false) : fP y k r (i + 1) = fP y k r i := by
 unfold fP tL
 rw [range_succ, filter_append]
 simp [ht, h]
theorem wI {y : Yard} {k : Nat} {r : Run} (hr : y.runs[k]? = some r) {i : Nat} (hi : i = r.tasks.length) : fP y k r i = (gW y (k + 1)).map (eE y) := by
 subst hi
 unfold fP
 simp [gW, hr]
theorem zD (n : Int) (r : Run) (m : Nat) : (tL n r m).length ≤ m := by
 unfold tL
 exact Nat.le_trans (length_filter_le _ _) (by simp)
theorem nL {y : Yard} (hy : YardIs y) : ∀ k, (gW y k).length ≤ 12 * k
 | 0 => by simp [gW]
 | k + 1 => by
  have ih := nL hy k
  simp only [gW, length_append]
  cases hr : y.runs[k]? with
  | none => simp; omega
  | some r =>
   have h1 := zD y.now r r.tasks.length
   have h2 := (hy.run k r hr).1.small
   simp only [length_map]; omega
theorem wH {y : Yard} (hy : YardIs y) (k : Nat) (r : Run) (i : Nat) : (fP y k r i).length ≤ 12 * k + i := by
 have h1 := nL hy k
 have h2 := zD y.now r i
 unfold fP
 simp only [length_map, length_append]; omega
theorem sE {y : Yard} {p : Nat × Nat} : ∀ {k}, p ∈ gW y k → ∃ r t, y.runs[p.1]? = some r ∧ r.tasks[p.2]? = some t ∧ eE y p = [r.id, (p.2 : Int), t.try_]
 | 0, h => by simp [gW] at h
 | k + 1, h => by
  simp only [gW, mem_append] at h
  rcases h with h | h
  ·exact sE h
  ·cases hr : y.runs[k]? with
   | none => rw [hr] at h; simp at h
   | some r =>
    rw [hr] at h
    simp only [mem_map] at h
    obtain ⟨i, hi, rfl⟩ := h
    unfold tL at hi
    rw [mem_filter] at hi
    cases ht : r.tasks[i]? with
    | none => rw [ht] at hi; simp at hi
    | some t => exact ⟨r, t, hr, ht, by simp [eE, hr, ht]⟩
def kT (n : Int) (y : Yard) : Yard := ⟨n, y.seq, y.shelf, y.runs⟩
def jU (y : Yard) (l : List (Nat × Nat)) : Yard := l.foldl (fun o p => gV o p.1 p.2) y
theorem turnF_now (n : Int) (y : Yard) (k i : Nat) : gV (kT n y) k i = kT n (gV y k i) := by
 unfold gV
 show (match y.runs[k]? with | none => _ | some r => _) = _
 cases y.runs[k]? with
 | none => rfl
 | some r =>
  simp only
  cases r.tasks[i]? with
  | none => rfl
  | some t => simp only; split <;> rfl
theorem yC (n : Int) : ∀ (l : List (Nat × Nat)) (y : Yard), jU (kT n y) l = kT n (jU y l)
 | [], y => rfl
 | p :: l, y => by
  show jU (gV (kT n y) p.1 p.2) l = kT n (jU (gV y p.1 p.2) l)
  rw [turnF_now, yC n l]
theorem jT {y : Yard} {l : List (Nat × Nat)} {j : Nat} {p : Nat × Nat} (h : l[j]? = some p) : jU y (l.take (j + 1)) = gV (jU y (l.take j)) p.1 p.2 := by
 unfold jU
 rw [take_add_one, h]
 simp [foldl_append]
theorem oW (y : Yard) (l : List (Nat × Nat)) : jU y (l.take 0) = y := by simp [jU]
theorem YardIs.at {y : Yard} (hy : YardIs y) {n : Int} (h : 0 ≤ n ∧ n ≤ 999999980) : YardIs (kT n y) := ⟨h, hy.seq, hy.shelf, hy.runs, hy.each, hy.run⟩
theorem RI.list {y : Yard} (hy : YardIs y) {l : List (Nat × Nat)} (hl : ∀ p ∈ l, p.1 < y.runs.length) : ∀ j, RI y (jU y (l.take j)) j
 | 0 => by rw [oW]; exact RI.start hy
 | j + 1 => by
  have ih := RI.list hy hl j
  cases hp : l[j]? with
  | none =>
   have h1 := List.getElem?_eq_none_iff.1 hp
   rw [take_of_length_le (show l.length ≤ j + 1 by omega)]
   rw [take_of_length_le h1] at ih
   exact ih.mono aA
  | some p => rw [jT hp]; exact ih.turn hy (hl p (mem_of_getElem? hp))
theorem uF {y : Yard} : ∀ p ∈ bN y, p.1 < y.runs.length := fun p hp => by
 obtain ⟨r, t, h1, _⟩ := sE hp
 exact (gsi_.1 h1).1
noncomputable def aX5 (y : Yard) : Yard := jU (kT (y.now + 1) y) (bN y)
noncomputable def cS (y : Yard) : Yard × Int := if aI y = false then (y, 8) else if 999999980 < y.now + 1 then (y, 7) else (aX5 y, 0)
theorem aI2 {y : Yard} {j : Nat} (hj : j < (bN y).length) : ∃ k i r t, (bN y)[j]? = some (k, i) ∧ y.runs[k]? = some r ∧ r.tasks[i]? = some t ∧ ((bN y).map (eE y))[j]? = some [r.id, (i : Int), t.try_] := by
 obtain ⟨⟨k, i⟩, hp⟩ : ∃ p, (bN y)[j]? = some p := ⟨_, getElem?_eq_getElem hj⟩
 obtain ⟨r, t, h1, h2, h3⟩ := sE (mem_of_getElem? hp)
 exact ⟨k, i, r, t, hp, h1, h2, by rw [getElem?_map, hp, Option.map_some, h3]⟩
theorem RunIs.tk {r : Run} (h : RunIs r) {i : Nat} {t : Task} (ht : r.tasks[i]? = some t) : (0 ≤ t.try_ ∧ t.try_ ≤ 1000000) ∧ (0 ≤ t.until_ ∧ t.until_ ≤ 1000000000) := by
 obtain ⟨hl, rfl⟩ := gsi_.1 ht
 obtain ⟨_, _, h3, h4, h5, _⟩ := h.task i hl hl
 have hp := (oL h.plan).1
 unfold aU at hp
 by_cases e : r.tasks[i].state = 3
 ·have := h4 e; omega
 have := h5 e; omega
theorem uG {n : Int} {t : Task} (h3 : t.state = 3) (h : t.until_ ≤ n + 1) : mQ n t = true := by unfold mQ; simp [h3, h]
theorem uH {n : Int} {t : Task} (h : ¬ (t.state = 3 ∧ t.until_ ≤ n + 1)) : mQ n t = false := by
 unfold mQ
 cases h1 : decide (t.state = 3) with
 | false => rfl
 | true => cases h2 : decide (t.until_ ≤ n + 1) with
  | false => rfl
  | true => exact absurd ⟨of_decide_eq_true h1, of_decide_eq_true h2⟩ h

theorem aQ3 {r : Run} {i : Nat} {t : Task} (g : r.ok) (hi : i ≤ 1000) (gt : t.ok) : ∀ z ∈ [r.id, (i : Int), t.try_], Dsh.good z := by
 intro z hz
 simp only [mem_cons, not_mem_nil, or_false] at hz
 rcases hz with rfl | rfl | rfl
 ·exact g.1
 ·show I64 _; unfold I64; omega
 exact gt.2.2.1
theorem aG4 {y : Yard} (hY : YardIs y) {k : Nat} {r : Run} (hr : y.runs[k]? = some r) : r.tasks.length ≤ 12 ∧ r.ok := ⟨(hY.run k r hr).1.small.2.1, (hY.run k r hr).1.small.1⟩
theorem LateOf_i (y : Yard) (hY : YardIs y) : Ct1 prog 314 [.S y] [.L ((bN y).map (eE y))] :=
 vc func314 (fun (hg : gin [Par.S y]) => let h8 := hY.runs
  .w (List Int) 34 3 <| .l (Γ := Nat) (fun k => k ≤ y.runs.length) (fun k => y.runs.length - k) [1, 9, 10] [2] [0, 1] (fun k => [vR 3 3, vI 11 k]) (fun k => [oR 3 34 ((gW y k).map (eE y))]) 0 fun k hk tk =>
   .s ((k : Int) < y.runs.length)
    (fun h => .x y.runs k (h := by omega) fun r hr gr => let hlk := aG4 hY hr
     .g 3 (tM y k r).symm <| .l (Γ := Nat) (fun i => i ≤ r.tasks.length) (fun i => r.tasks.length - i) [1, 5, 9, 10, 11, 16, 17] [2, 7] [0, 1, 5, 6] (fun i => [vR 3 3, vI 18 i]) (fun i => [oR 3 34 (fP y k r i)]) 0 fun i hi ti => let hln := wH hY k r i
      .s ((i : Int) < r.tasks.length)
       (fun h2 => .x r.tasks i (h := by omega) fun t ht gt => let htk := (hY.run k r hr).1.tk ht
        let no : mQ y.now t = false → D prog (fun _ : Unit => True ∧ rgd [Rk.L ((bN y).map (eE y))]) := fun hb => .g 3 (aI4 (y := y) (k := k) ht hb).symm <| .p i 1 (h := by unfold I64; omega) <| .n ti (i + 1) []
        let yes : mQ y.now t = true → D prog (fun _ : Unit => True ∧ rgd [Rk.L ((bN y).map (eE y))]) := fun hb => .li inferInstance 47 [r.id, (i : Int), t.try_] (by simp) (by simp) (aQ3 gr aA gt) <| .a (fP y k r i) [r.id, (i : Int), t.try_] 24 (hy := trivial) (h63 := by unfold maxLen; omega) (hby := by omega) <| .g 3 (aI3 hr ht hb).symm <| .p i 1 (h := by unfold I64; omega) <| .n ti (i + 1) []
        .s (t.state = 3)
         (fun h3 => .s (t.until_ ≤ y.now)
          (fun h4 => yes (uG h3 aA))
          (fun h4 => .m t.until_ 1 (h := by unfold I64; omega) <| .s (t.until_ - 1 = y.now)
           (fun h5 => yes (uG h3 aA))
           (fun h5 => no (uH aA))))
         (fun h3 => no (uH aA)))
       (fun h2 => .g 3 (wI hr (show i = r.tasks.length by omega)) <| .p k 1 (h := by unfold I64; omega) <| .n tk (k + 1) []))
    (fun h => .g 3 (show (gW y k).map (eE y) = (bN y).map (eE y) by rw [show k = y.runs.length by omega]; rfl) <| .rt () ⟨trivial, trivial⟩)) aB
theorem LateOf_s (y : Yard) (hY : YardIs y) : Ct1 prog 339 [.S y] [.L ((bN y).map (eE y))] :=
 vc func339 (fun (hg : gin [Par.S y]) => let h8 := hY.runs
  .e (List Int) <| .l (Γ := Nat) (fun k => k ≤ y.runs.length) (fun k => y.runs.length - k) [777777, 7] [777777] [777777] (fun k => [vR 3 3, vI 4 k]) (fun k => [oR 3 34 ((gW y k).map (eE y))]) 0 fun k hk tk =>
   .s ((k : Int) < y.runs.length)
    (fun h => .ex (p := fun r => y.runs[k]? = some r) ⟨y.runs[k]'(by omega), getElem?_eq_getElem _⟩ fun r hr => let hlk := aG4 hY hr
     let gr := hlk.2
     .g 3 (tM y k r).symm <| .l (Γ := Nat) (fun i => i ≤ r.tasks.length) (fun i => r.tasks.length - i) [777777] [777777] [777777] (fun i => [vR 3 3, vI 5 i]) (fun i => [oR 3 34 (fP y k r i)]) 0 fun i hi ti => let hln := wH hY k r i
      .y hr fun _ => .s ((i : Int) < r.tasks.length)
       (fun h2 => .y hr fun _ => .x r.tasks i (h := by omega) fun t ht gt => let htk := (hY.run k r hr).1.tk ht
        let no : mQ y.now t = false → D prog (fun _ : Unit => True ∧ rgd [Rk.L ((bN y).map (eE y))]) := fun hb => .g 3 (aI4 (y := y) (k := k) ht hb).symm <| .p i 1 (h := by unfold I64; omega) <| .n ti (i + 1) []
        let yes : mQ y.now t = true → D prog (fun _ : Unit => True ∧ rgd [Rk.L ((bN y).map (eE y))]) := fun hb => .y hr fun _ => .lo inferInstance [r.id, (i : Int), t.try_] (by simp) (by simp) (aQ3 gr aA gt) <| .a (fP y k r i) [r.id, (i : Int), t.try_] 24 (hy := trivial) (h63 := by unfold maxLen; omega) (hby := by omega) <| .g 3 (aI3 hr ht hb).symm <| .p i 1 (h := by unfold I64; omega) <| .n ti (i + 1) []
        .s (t.state = 3)
         (fun h3 => .s (t.until_ ≤ y.now)
          (fun h4 => yes (uG h3 aA))
          (fun h4 => .m t.until_ 1 (h := by unfold I64; omega) <| .s (t.until_ - 1 ≤ y.now)
           (fun h5 => yes (uG h3 aA))
           (fun h5 => no (uH aA))))
         (fun h3 => no (uH aA)))
       (fun h2 => .g 3 (wI hr (show i = r.tasks.length by omega)) <| .p k 1 (h := by unfold I64; omega) <| .n tk (k + 1) []))
    (fun h => .g 3 (show (gW y k).map (eE y) = (bN y).map (eE y) by rw [show k = y.runs.length by omega]; rfl) <| .rt () ⟨trivial, trivial⟩)) aB
theorem qH {α : Type} {xs : List α} {k : Nat} {x : α} (h : xs[k]? = some x) : xs.set k x = xs := by
 obtain ⟨hl, rfl⟩ := gsi_.1 h
 exact set_getElem_self hl
end Go.Proofs.YtanpcpoogkdlaaaGreat
