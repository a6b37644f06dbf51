/-
  Runs that are done; starting anew; of the reference; told to the reader.
  Runs that are given up, of both.
  Late tasks, time that goes on, runs that are left, of the reference; told to the reader.
  Shelves that are halved, merged, taken from, of both.
  What a worker is given, of both.
  Shelves that are swept, tasks that are started, polls, of the reference; told to the reader.
  DeedOk of the program, and what the reference looks at.
  DeedOk of the reference; SpanOk.
  What deeds are well made, of both; told to the reader.
  What is submitted, of both.
  Runs that are forgotten, of both.
  A deed that is done, of both.
  A deed that is done, of the reference; told to the reader.
  slices.DeleteFunc, told as a reader; shelves that are swept, of the program.
  Runs that are forgotten, of the program; told to the reader.
  Runs that are changed where they lie, of the program; told to the reader.
  A deed that is done, of the program; told to the reader.
  Yards, plans, runs that are alike, of both; told to the reader.
  A made slice, all zeros, of elements of several cells.
  A new crew, of both.
  What a crew's turn makes of it, and many turns; how heavy it becomes. Theory alone.
  Orders of spans: what is asked of them; the weight of a yard behind a deed. Theory alone.
  All deeds of a list, and what stays, of both; told to the reader.
  What stays, as calls.
  The law on Stays, walked.
  What is handed to a law, taken out of the row's reading: it is data in memory, as the walks want it.
  A law's arguments, taken out of the row's reading.
-/
import Derived.ProofKit
import Derived.OpenShut
import Derived.Test.YtanpcpoogkdlaaaGreatQ01
import Derived.Test.YtanpcpoogkdlaaaGreatQ02
import Derived.Test.YtanpcpoogkdlaaaGreatQ03
import Derived.Test.YtanpcpoogkdlaaaGreatQ04
import Derived.Test.YtanpcpoogkdlaaaGreatQ05
namespace Go.Proofs.YtanpcpoogkdlaaaGreat
set_option linter.unusedSimpArgs false
set_option linter.unusedVariables false
set_option maxRecDepth 100000
set_option maxHeartbeats 2000000
open Go.RowKit Go.Proofs.Tryz List
variable (w : World) {cs ds : List Value} {fp gp : List Nat}
theorem rd_no {r : Run} {task : Int} (h : fB r task = false) : r = eY r task := by unfold eY; rw [if_neg (by rw [h]; simp)]
theorem rd_val {r : Run} {task : Int} {t : Task} (hB : fB r task = true) (hR : RunIs r) (h0 : 0 ≤ task) (ht : r.tasks[task.toNat]? = some t) (h3 : t.state = 3) : (⟨r.id, r.plan, bH (bT r task.toNat t), bT r task.toNat t⟩ : Run) = eY r task := by
 unfold eY; rw [if_pos hB, wV ht]; unfold aK1; rw [← doneT_state hR ht h3]
theorem st_i64 (ts : List Task) : I64 (bH ts) := by unfold bH I64; (repeat' split) <;> omega
theorem RunDone_s (r : Run) (task : Int) (hl : r.plan.edges.length ≤ 1048576) (htl : r.tasks.length ≤ 1048576) : Ct1 prog 337 [.S r, .I task] [.S (eY r task)] :=
 .one (eY r task) (rk := fun x => [.S x]) <| vc func337 (fun (hg : gin [Par.S r, Par.I task]) => let gr := hg.1.1
  .c func288 (jS r hl htl) (hg := ⟨gr, trivial⟩) fun _ => .c func390 (bE6 r task) (hg := ⟨gr, trivial⟩) fun _ => .v (fB r task)
   (fun h => .rt r ⟨rd_no h, gr, trivial⟩)
   (fun h => .ex (p := fun t => r.tasks[task.toNat]? = some t ∧ t.state = 3 ∧ 0 ≤ task ∧ RunIs r) ((vD h).2.elim fun t ht => ⟨t, ht.2.1, ht.2.2, ht.1, (vD h).1⟩) fun t ht =>
    let hR := ht.2.2.2
    .d 5 ht.1 fun gt => .ie task.toNat task (he := by omega) <| .ie task.toNat task (he := by omega) <| .wt 26 <| .f 5 r.tasks ⟨4, t.need, t.try_, 0⟩ (h := yE gt aA) <|
    .c func391 (BehindP_s r.plan task hR.plan) (hg := ⟨gr.2.1, trivial⟩) fun _ => .g 5 (aA4 (r.tasks.set task.toNat ⟨4, t.need, t.try_, 0⟩) (aV r.plan task)).symm <|
    .l (Γ := Nat) (fun k => k ≤ (aV r.plan task).length) (fun k => (aV r.plan task).length - k) [4, 5, 6] [3, 4, 8] [] (fun k => [vI 7 k]) (fun k => [oO 5 (mJ (r.tasks.set task.toNat ⟨4, t.need, t.try_, 0⟩) ((aV r.plan task).take k)), oB 6 [.v (I r.id), .v (I r.plan.prio), .v (I r.plan.most), .v (I r.plan.wait), .v (I r.plan.tasks), .r 4, .v (I r.state), .r 5]]) 0 fun k hk tk =>
     .s ((k : Int) < (aV r.plan task).length)
      (fun hlt => .ex (rd_in hR ht.1 k aA) fun q hq =>
       let fin : ∀ y : Task, kL q.2 = y → Task.ok y → D prog (fun x : Run => x = eY r task ∧ rgd [Rk.S x]) := fun y hy gy => .d 5 hq.2.1 fun _ => .y hq.1 fun _ => .ie q.1.toNat q.1 (he := by omega) <| .wt 34 <| .f 5 (mJ (r.tasks.set task.toNat ⟨4, t.need, t.try_, 0⟩) ((aV r.plan task).take k)) y (h := gy) <| .g 5 (aU6 hq.1 hq.2.1 hy).symm <| .p k 1 (h := by have := pM r.plan task; unfold I64; omega) <| .n tk (k + 1) []
       .y hq.1 fun _ => .ye hq.2.1 q.1 (he := by omega) fun gu => .m q.2.need 1 (h := by unfold I64; omega) <| .s (q.2.need - 1 = 0)
        (fun h0 => fin ⟨2, q.2.need - 1, q.2.try_, q.2.until_⟩ (aS1 h0) (tU gu hq.2.2.2 2 (by unfold I64; omega)))
        (fun h0 => fin ⟨q.2.state, q.2.need - 1, q.2.try_, q.2.until_⟩ (aS0 h0) (tU gu hq.2.2.2 _ gu.1)))
      (fun hge => .g 5 (rd_ts (t := t) ht.2.2.1 (show k = (aV r.plan task).length by omega)) <| .c func373 (aV3 ⟨r.id, r.plan, r.state, bT r task.toNat t⟩ (doneTs_st hR ht.1) (by show (bT r task.toNat t).length ≤ _; rw [pK]; exact htl)) (hg := ⟨gr, trivial⟩) fun _ =>
       .rt ⟨r.id, r.plan, bH (bT r task.toNat t), bT r task.toNat t⟩ ⟨rd_val h hR ht.2.2.1 ht.1 ht.2.1, ⟨gr.1, gr.2.1, st_i64 _⟩, trivial⟩))) aB
theorem done_at {y : Yard} {id task try_ : Int} {k : Nat} {r : Run} {t : Task} (h : cM y id task try_ = 0) (hk : bF y id = some k) (hr : y.runs[k]? = some r) (hR : RunIs r) (h0 : 0 ≤ task) (ht : r.tasks[task.toNat]? = some t) (h3 : t.state = 3) : cC y k r (eY r task) = dI y id task try_ := by
 unfold dI; rw [lE h hk hr, vJ hR h0 ht h3]
theorem Complete_s (y : Yard) (id task try_ : Int) (hw : y.wt ≤ 1048576) : Ct1 prog 221 [.S y, .I id, .I task, .I try_] [.S (dI y id task try_), .I (cM y id task try_)] :=
 .one (dI y id task try_, cM y id task try_) (rk := fun q => [.S q.1, .I q.2]) <| vc func221 (fun (hg : gin [Par.S y, Par.I id, Par.I task, Par.I try_]) => let gy := hg.1.1
  .c func184 (dN y hw) (hg := ⟨gy, trivial⟩) fun _ => .c func335 (Ask_s y id task try_ hw) (hg := ⟨gy, trivial⟩) fun _ => .u (cM y id task try_ = 0)
   (fun h => .rt (y, cM y id task try_) ⟨by rw [dI, lD h], gy, trivial⟩)
   (fun h => let ha := xJ h
    .ex (p := fun q : Nat × Run × Task => bF y id = some q.1 ∧ y.runs[q.1]? = some q.2.1 ∧ RunIs q.2.1 ∧ 0 ≤ task ∧ q.2.1.tasks[task.toNat]? = some q.2.2 ∧ q.2.2.state = 3) (ha.2.elim fun k hk => hk.elim fun r hr => hr.elim fun t ht => ⟨(k, r, t), ht⟩) fun q hq =>
    let hrf := vJ hq.2.2.1 hq.2.2.2.1 hq.2.2.2.2.1 hq.2.2.2.2.2
    let hpre := aF3 ha.1 (eY q.2.1 task).id
    let hlen : (eY q.2.1 task).tasks.length ≤ 1000 := (by rw [hrf, (kR _ _).2.2.1]; have := hq.2.2.1.small; omega)
    .c func291 (iK y id hw) (hg := ⟨gy, trivial⟩) fun _ => .ye hq.2.1 (aD y id) (he := bU hq.1) fun gr => .c func337 (RunDone_s q.2.1 task (wC hq.2.2.1).1 (wC hq.2.2.1).2) (hg := ⟨gr, trivial⟩) fun hf =>
     .cw _ func336 (aE5 y (aD y id) q.1 q.2.1 (eY q.2.1 task) (bU hq.1) hq.2.1 hpre.1 hlen hpre.2.1 hpre.2.2 hf.1.1 (pL ha.1 hlen)) ⟨trivial, trivial⟩ fun _ _ hz => .rt (cC y q.1 q.2.1 (eY q.2.1 task), 0) ⟨by rw [done_at h hq.1 hq.2.1 hq.2.2.1 hq.2.2.2.1 hq.2.2.2.2.1 hq.2.2.2.2.2, h], hz.1.1, trivial⟩)) aB
theorem rest_run {y out : Yard} {n k : Nat} {r1 : Run} (h : RI y out n) (hr : y.runs[k]? = some r1) : ∃ r2, out.runs[k]? = some r2 ∧ RunIs r2 ∧ r2.tasks.length = r1.tasks.length := by
 obtain ⟨r2, h1, h2, h3, h4, h5⟩ := h.run k r1 hr
 exact ⟨r2, h1, h2, h4⟩
theorem yS {y out : Yard} {n k i : Nat} {r : Run} {t : Task} (hY : YardIs y) (h : RI y out n) (hn : n ≤ 900) (hr : out.runs[k]? = some r) (ht : r.tasks[i]? = some t) (h3 : t.state = 3) (hR : RunIs r) : (4 ≤ out.shelf.length ∧ (out.shelf.getD (aO (bG r (i : Int)).id).toNat []).length ≤ 1000000 ∧ (0 ≤ out.seq ∧ out.seq ≤ 4000000000)) ∧ (bG r (i : Int)).tasks.length ≤ 1000 ∧ (cC out k r (bG r (i : Int))).ok ∧ cC out k r (bG r (i : Int)) = gV out k i := by
 have he := sZ hR ht h3
 refine ⟨h.chg hY aA _, by rw [he]; have := (hR.fails ht h3).small; omega, by rw [he]; exact (h.change hY hr ht h3 hR).ok hY aA, by rw [he]; exact (aN6 hr ht h3).symm⟩
theorem aG8 {y : Yard} (hY : YardIs y) {k : Nat} (hk : k ≤ y.runs.length) : RI y (jE y k) 96 := (RI.outer hY k hk).mono (by have := hY.runs; omega)
theorem aQ4 {y : Yard} (hY : YardIs y) {k i : Nat} {r : Run} (hr : y.runs[k]? = some r) (hi : i ≤ r.tasks.length) : RI y (mG (jE y k) k i) 200 := (RI.at hY (gsi_.1 hr).1).mono (by have := hY.runs; have := (gsi_.1 hr).1; have := (hY.run k r hr).1.small; omega)
abbrev ryS (y : Yard) (b s r : Nat) : List (Nat × To) := [oB b [.v (I y.now), .v (I y.seq), .r s, .r r], oO s y.shelf, oO r y.runs]
theorem Restart_s (y : Yard) (hw : y.wt ≤ 1048576) : Ct1 prog 226 [.S y] [.S (cJ y)] :=
 .one (cJ y) (rk := fun x => [.S x]) <| vc func226 (fun (hg : gin [Par.S y]) => let gy := hg.1.1
  .c func184 (dN y hw) (hg := ⟨gy, trivial⟩) fun _ => .c func185 (iU y hw) (hg := ⟨gy, trivial⟩) fun _ => .v (aI y)
   (fun h => .rt y ⟨by unfold cJ; rw [if_neg (by rw [h]; simp)], gy, trivial⟩)
   (fun h => let hY := fW h
    .l (Γ := Nat × Yard) (fun g => g.1 ≤ y.runs.length ∧ g.2 = jE y g.1) (fun g => y.runs.length - g.1) [2, 3] [3] [] (fun g => [vI 4 g.1]) (fun g => ryS g.2 6 4 5) (0, y) (h := ⟨Nat.zero_le _, rfl⟩) fun g hJ tk =>
     let hRK : RI y g.2 96 := (by rw [hJ.2]; exact aG8 hY hJ.1)
     .s ((g.1 : Int) < g.2.runs.length)
      (fun hlt => .ex (p := fun r1 => y.runs[g.1]? = some r1) ⟨_, getElem?_eq_getElem (show g.1 < y.runs.length by have := hRK.runs; omega)⟩ fun r1 hr1 =>
       .l (Γ := Nat × Yard) (fun q => q.1 ≤ r1.tasks.length ∧ q.2 = mG (jE y g.1) g.1 q.1) (fun q => r1.tasks.length - q.1) [2, 3, 4] [3] [] (fun q => [vI 5 q.1]) (fun q => ryS q.2 6 4 5) (0, g.2) (h := ⟨Nat.zero_le _, hJ.2⟩) fun q hq tq =>
        let hRI : RI y q.2 200 := (by rw [hq.2]; exact aQ4 hY hr1 hq.1)
        .ex (rest_run hRI hr1) fun r2 h2 => .y h2.1 fun gr => .s ((q.1 : Int) < r2.tasks.length)
         (fun hl2 => .ex (p := fun t => r2.tasks[q.1]? = some t) ⟨_, getElem?_eq_getElem (show q.1 < r2.tasks.length by omega)⟩ fun t2 ht2 => .y h2.1 fun _ => .y ht2 fun _ => .s (t2.state = 3)
          (fun h3 => let hT := yS hY hRI aA h2.1 ht2 h3 h2.2.1
           .y h2.1 fun _ => .c func338 (pP r2 (q.1 : Int) (wC h2.2.1).1 (wC h2.2.1).2) (hg := ⟨gr, trivial⟩) fun hf =>
           .cw _ func336 (aE5 q.2 (g.1 : Int) g.1 r2 (bG r2 (q.1 : Int)) rfl h2.1 hT.1.1 hT.2.1 hT.1.2.1 hT.1.2.2 hf.1.1 hT.2.2.1) ⟨trivial, trivial⟩ fun _ _ hz =>
           .p q.1 1 (h := by have := h2.2.1.small; unfold I64; omega) <| .n tq (q.1 + 1, cC q.2 g.1 r2 (bG r2 (q.1 : Int))) [(4, 19), (5, 20)] (h1 := ⟨by show q.1 + 1 ≤ _; omega, by show cC q.2 g.1 r2 (bG r2 (q.1 : Int)) = _; rw [hT.2.2.2, hq.2]; rfl⟩) (h2 := by show r1.tasks.length - (q.1 + 1) < _; omega))
          (fun h3 => .p q.1 1 (h := by have := h2.2.1.small; unfold I64; omega) <| .n tq (q.1 + 1, q.2) [] (h1 := ⟨by show q.1 + 1 ≤ _; omega, by show q.2 = gV (mG (jE y g.1) g.1 q.1) g.1 q.1; rw [← hq.2]; exact (tS h2.1 ht2 h3).symm⟩) (h2 := by show r1.tasks.length - (q.1 + 1) < _; omega)))
         (fun hl2 => .p g.1 1 (h := by have := hY.runs; unfold I64; omega) <| .n tk (g.1 + 1, q.2) [] (h1 := ⟨by show g.1 + 1 ≤ _; have := hRK.runs; omega, by show q.2 = _; rw [hq.2]; exact aG9 hr1 aA⟩) (h2 := by show y.runs.length - (g.1 + 1) < _; have := hRK.runs; omega)))
      (fun hge => .rt g.2 ⟨by unfold cJ; rw [if_pos h, hJ.2]; congr 1; have := hRK.runs; omega, hRK.ok hY aA, trivial⟩))) aB
theorem qN {y : Yard} {id : Int} (h : ¬ aD y id < 0) : ∃ r, y.runs[(aD y id).toNat]? = some r := by
 unfold aD at h ⊢
 cases hk : bF y id with
 | none => rw [hk] at h; simp [ixI] at h
 | some k =>
  have := vH hk
  exact ⟨_, by simp only [ixI, Int.toNat_natCast]; exact getElem?_eq_getElem this⟩
theorem aJ1 {r : Run} (h : r.ok) : (gX r).ok := by
 unfold gX
 split
 ·exact ⟨h.1, h.2.1, by show I64 4; unfold I64; omega⟩
 exact h
noncomputable def aU4 (y : Yard) (k : Nat) (r : Run) : Yard := ⟨y.now, y.seq, y.shelf, y.runs.set k (gX r)⟩
noncomputable def bA (y : Yard) (id : Int) : Yard × Int :=
 if aI y = false then (y, 8) else match y.runs[(aD y id).toNat]? with
  | some r => if aD y id < 0 then (y, 10) else if r.state ≠ 1 then (y, 12) else (aU4 y (aD y id).toNat r, 0)
  | none => (y, 10)
theorem rJ {y : Yard} {id : Int} (h0 : aI y = true) (h : aD y id < 0) : bA y id = (y, 10) := by
 unfold bA
 rw [if_neg (by rw [h0]; decide)]
 cases y.runs[(aD y id).toNat]? with
 | none => rfl
 | some r => simp only; rw [if_pos h]
theorem jN {y : Yard} {id : Int} {r : Run} (h0 : aI y = true) (h : ¬ aD y id < 0) (hr : y.runs[(aD y id).toNat]? = some r) : bA y id = if r.state ≠ 1 then (y, 12) else (aU4 y (aD y id).toNat r, 0) := by
 unfold bA
 rw [if_neg (by rw [h0]; decide), hr]
 simp only
 rw [if_neg h]

structure LtA (y out : Yard) (j k i : Nat) (id tr : Int) (r : Run) (t : Task) : Prop where
 p : (bN y)[j]? = some (k, i)
 row : ((bN y).map (eE y))[j]? = some [id, (i : Int), tr]
 ix : aD out id = (k : Int)
 hr : out.runs[k]? = some r
 is : RunIs r
 ht : r.tasks[i]? = some t
theorem lt_at {y out : Yard} {n j : Nat} (hY : YardIs y) (h : RI y out n) (hj : j < (bN y).length) : ∃ q : (Nat × Nat) × (Int × Int) × Run × Task, LtA y out j q.1.1 q.1.2 q.2.1.1 q.2.1.2 q.2.2.1 q.2.2.2 := by
 obtain ⟨k, i, r, t, hp, hr, ht, hrow⟩ := aI2 hj
 obtain ⟨r2, t2, h1, h2, h3, h4⟩ := h.holds hY hr ht
 exact ⟨((k, i), (r.id, t.try_), r2, t2), ⟨hp, hrow, bU (h.ix hY hr), h1, h2, h3⟩⟩
theorem bA7 {y : Yard} (hY : YardIs y) : (bN y).length ≤ 96 := by have := nL hY y.runs.length; have := hY.runs; show (gW y y.runs.length).length ≤ 96; omega
theorem aF5 {y : Yard} (h : aI y = false) : (y, (8 : Int)) = cS y := by unfold cS; rw [if_pos h]
theorem aF6 {y : Yard} (h0 : aI y = true) (h : 999999980 < y.now + 1) : (y, (7 : Int)) = cS y := by unfold cS; rw [if_neg (by rw [h0]; simp), if_pos h]
theorem ticked_0 {y out : Yard} {j : Nat} (h0 : aI y = true) (h : ¬ 999999980 < y.now + 1) (hY : YardIs y) (ho : out = jU y ((bN y).take j)) (hj : ¬ j < (bN y).length) : ((⟨out.now + 1, out.seq, out.shelf, out.runs⟩ : Yard), (0 : Int)) = cS y := by
 unfold cS; rw [if_neg (by rw [h0]; simp), if_neg h]
 unfold aX5
 rw [yC, ← (RI.list hY uF j).now, ← ho, ho, take_of_length_le aA]
 rfl
theorem Tick_s (y : Yard) (hw : y.wt ≤ 1048576) : Ct1 prog 223 [.S y] [.S (cS y).1, .I (cS y).2] :=
 .one (cS y) (rk := fun q => [.S q.1, .I q.2]) <| vc func223 (fun (hg : gin [Par.S y]) => let gy := hg.1.1
  .c func184 (dN y hw) (hg := ⟨gy, trivial⟩) fun _ => .c func185 (iU y hw) (hg := ⟨gy, trivial⟩) fun _ => .v (aI y)
   (fun h => .rt (y, 8) ⟨aF5 h, gy, trivial⟩)
   (fun h => let hY := fW h
    let hn := hY.now
    .p y.now 1 (h := by unfold I64; omega) <| .s (999999980 < y.now + 1)
     (fun h7 => .rt (y, 7) ⟨aF6 h h7, gy, trivial⟩)
     (fun h7 => let hln := bA7 hY
      let hml : ((bN y).map (eE y)).length = (bN y).length := length_map _
      .c func339 (LateOf_s y hY) (hg := ⟨gy, trivial⟩) fun _ =>
      .l (Γ := Nat × Yard) (fun g => g.1 ≤ (bN y).length ∧ g.2 = jU y ((bN y).take g.1)) (fun g => (bN y).length - g.1) [2, 4, 5] [3, 7] [] (fun g => [vI 6 g.1]) (fun g => ryS g.2 6 4 5) (0, y) (h := ⟨Nat.zero_le _, (oW y _).symm⟩) fun g hJ tk =>
       let hRI : RI y g.2 200 := (by rw [hJ.2]; exact (RI.list hY uF g.1).mono aA)
       .s ((g.1 : Int) < ((bN y).map (eE y)).length)
        (fun hlt => .ex (lt_at hY hRI (show g.1 < (bN y).length by omega)) fun q hq =>
         let r2 := q.2.2.1
         .y hq.row fun _ => .y (show [q.2.1.1, (q.1.2 : Int), q.2.1.2][0]? = some q.2.1.1 from rfl) fun gi => .c func291 (iK g.2 q.2.1.1 (Nat.le_trans (hRI.wt hY aA) aA)) (hg := ⟨hRI.ok hY aA, trivial⟩) fun _ =>
         .ye hq.hr (aD g.2 q.2.1.1) (he := hq.ix) fun gr => .y hq.row fun _ => .y (show [q.2.1.1, (q.1.2 : Int), q.2.1.2][1]? = some (q.1.2 : Int) from rfl) fun _ => .y hq.ht fun _ => .s (q.2.2.2.state = 3)
          (fun h3 => let hT := yS hY hRI aA hq.hr hq.ht h3 hq.is
           .ye hq.hr (aD g.2 q.2.1.1) (he := hq.ix) fun gr => .y hq.row fun _ => .y (show [q.2.1.1, (q.1.2 : Int), q.2.1.2][1]? = some (q.1.2 : Int) from rfl) fun _ =>
           .c func338 (pP q.2.2.1 (q.1.2 : Int) (wC hq.is).1 (wC hq.is).2) (hg := ⟨gr, trivial⟩) fun hf =>
           .cw _ func336 (aE5 g.2 (aD g.2 q.2.1.1) q.1.1 q.2.2.1 (bG q.2.2.1 (q.1.2 : Int)) hq.ix hq.hr hT.1.1 hT.2.1 hT.1.2.1 hT.1.2.2 hf.1.1 hT.2.2.1) ⟨trivial, trivial⟩ fun _ _ hz =>
           .p g.1 1 (h := by unfold I64; omega) <| .n tk (g.1 + 1, cC g.2 q.1.1 q.2.2.1 (bG q.2.2.1 (q.1.2 : Int))) [(4, 26), (5, 27)] (h1 := ⟨by show g.1 + 1 ≤ _; omega, by show cC g.2 q.1.1 q.2.2.1 (bG q.2.2.1 (q.1.2 : Int)) = _; rw [hT.2.2.2, jT hq.p, hJ.2]⟩) (h2 := by show (bN y).length - (g.1 + 1) < _; omega))
          (fun h3 => .p g.1 1 (h := by unfold I64; omega) <| .n tk (g.1 + 1, g.2) [] (h1 := ⟨by show g.1 + 1 ≤ _; omega, by show g.2 = _; rw [jT hq.p, ← hJ.2]; exact (tS hq.hr hq.ht h3).symm⟩) (h2 := by show (bN y).length - (g.1 + 1) < _; omega)))
        (fun hge => let hnow := hRI.now
         .p g.2.now 1 (h := by unfold I64; omega) <| .rt (⟨g.2.now + 1, g.2.seq, g.2.shelf, g.2.runs⟩, 0) ⟨ticked_0 h h7 hY hJ.2 aA, ⟨by show I64 (g.2.now + 1); unfold I64; omega, (show Yard.ok g.2 from hRI.ok hY aA).2⟩, trivial⟩)))) aB
theorem aS8 {r : Run} (h : cU r = false) : r = gX r := by unfold gX zL; rw [h]; rfl
theorem aS9 {r : Run} (h : ¬ r.state = 1) : r = gX r := by unfold gX zL; rw [decide_eq_false h, Bool.and_false]; rfl
theorem gone_1 {r : Run} (h0 : cU r = true) (h : r.state = 1) : (⟨r.id, r.plan, 4, bZ r.tasks⟩ : Run) = gX r := by
 rw [aT0 (by unfold zL; rw [h0, decide_eq_true h]; rfl), leave_all ((runIs.1 h0).no5 h)]
theorem RunLeft_s (r : Run) (hl : r.plan.edges.length ≤ 1048576) (htl : r.tasks.length ≤ 1048576) : Ct1 prog 340 [.S r] [.S (gX r)] :=
 .one (gX r) (rk := fun x => [.S x]) <| vc func340 (fun (hg : gin [Par.S r]) => let gr := hg.1.1
  .c func288 (jS r hl htl) (hg := ⟨gr, trivial⟩) fun _ => .c func290 (aE7 r) (hg := ⟨gr, trivial⟩) fun _ => .v (cU r)
   (fun h => .rt r ⟨aS8 h, gr, trivial⟩)
   (fun h => .u (r.state = 1)
    (fun h1 => .rt r ⟨aS9 h1, gr, trivial⟩)
    (fun h1 => .co _ func392 (aV6 r 4 (by unfold I64; omega) htl gr) trivial fun _ _ hq => .rt ⟨r.id, r.plan, 4, bZ r.tasks⟩ ⟨gone_1 h h1, hq.1.1, trivial⟩))) aB
theorem bD5 {y : Yard} {id : Int} (h : aI y = false) : (y, (8 : Int)) = bA y id := by unfold bA; rw [if_pos h]
theorem mO {y : Yard} {id : Int} (h : ¬ aD y id < 0) : aD y id = ((aD y id).toNat : Int) := by omega
theorem Cancel_s (y : Yard) (id : Int) (hw : y.wt ≤ 1048576) : Ct1 prog 224 [.S y, .I id] [.S (bA y id).1, .I (bA y id).2] :=
 .one (bA y id) (rk := fun q => [.S q.1, .I q.2]) <| vc func224 (fun (hg : gin [Par.S y, Par.I id]) => let gy := hg.1.1
  .c func184 (dN y hw) (hg := ⟨gy, trivial⟩) fun _ => .c func291 (iK y id hw) (hg := ⟨gy, trivial⟩) fun _ => .c func185 (iU y hw) (hg := ⟨gy, trivial⟩) fun _ => .v (aI y)
   (fun h => .rt (y, 8) ⟨bD5 h, gy, trivial⟩)
   (fun h => .s (aD y id < 0)
    (fun h2 => .rt (y, 10) ⟨(rJ h h2).symm, gy, trivial⟩)
    (fun h2 => .ex (qN h2) fun r hr => .ye hr (aD y id) (he := mO h2) fun gr => let hrl := fK hw hr
     .u (r.state = 1)
      (fun h3 => .rt (y, 12) ⟨by rw [jN h h2 hr, if_pos h3], gy, trivial⟩)
      (fun h3 => .d 5 hr fun _ => .ie (aD y id).toNat (aD y id) (he := mO h2) <| .c func340 (RunLeft_s r hrl.2.2 hrl.2.1) (hg := ⟨gr, trivial⟩) fun _ => .ie (aD y id).toNat (aD y id) (he := mO h2) <| .wt 41 <| .f 5 y.runs (gX r) (h := aJ1 gr) <|
       .rt (aU4 y (aD y id).toNat r, 0) ⟨by rw [jN h h2 hr, if_neg (by simp [h3])], gy, trivial⟩)))) aB
def iH (home : Int) (k : Nat) : List Int := [(home + 1) % 4, (home + 2) % 4, (home + 3) % 4].take (k - 1)
theorem oth_to {home : Int} {k : Nat} (h : 1 ≤ k) (h2 : k < 4) : iH home (k + 1) = iH home k ++ [(home + (k : Int)) % 4] := by
 rcases k with _ | _ | _ | _ | k
 ·omega
 ·rfl
 ·rfl
 ·rfl
 omega
theorem oth_4 (home : Int) : iH home 4 = [(home + 1) % 4, (home + 2) % 4, (home + 3) % 4] := rfl
theorem oth_vict {home draw d : Int} (hd : d = max draw 0 % 3) : ([] ++ (iH home 4).drop d.toNat) ++ (iH home 4).take d.toNat = aZ home draw := by
 rw [oth_4]
 have h3 : d = 0 ∨ d = 1 ∨ d = 2 := by omega
 unfold aZ kX
 rw [← hd]
 rcases h3 with rfl | rfl | rfl
 ·simp only [Int.toNat_zero, drop_zero, take_zero, append_nil, nil_append, List.cons.injEq, and_true]
  omega
 ·show [(home + 2) % 4, (home + 3) % 4, (home + 1) % 4] = _
  simp only [List.cons.injEq, and_true]
  omega
 show [(home + 3) % 4, (home + 1) % 4, (home + 2) % 4] = _
 simp only [List.cons.injEq, and_true]
 omega

theorem qA {α : Type} (f : α → Nat) (m : Nat) : ∀ xs : List α, (∀ x ∈ xs, f x ≤ m) → (xs.map f).sum ≤ xs.length * m
 | [], _ => by simp
 | x :: xs, h => by
  have h1 := h x (by simp)
  have h2 := qA f m xs (fun z hz => h z (by simp [hz]))
  simp only [map_cons, sum_cons, length_cons, Nat.succ_mul]
  omega
theorem aB1 {y : Yard} {s : List (List Entry)} {rr : List Run} {a b : Int} (h4 : s.length = 4) (he : ∀ j, j < 4 → (s.getD j []).length ≤ 80) (h8 : rr.length ≤ 8) (hr : ∀ r ∈ rr, r.wt ≤ 42) : (⟨a, b, s, rr⟩ : Yard).wt ≤ 100000 := by
 have hs := qA (fun z : List Entry => z.length) 80 s (fun z hz => by
  obtain ⟨j, hj, rfl⟩ := getElem_of_mem hz
  have := he j aA
  rw [getD_eq_getElem?_getD, getElem?_eq_getElem hj] at this
  simpa using this)
 have hq := qA (fun z : Run => z.wt) 42 rr hr
 rw [h4] at hs
 have : rr.length * 42 ≤ 8 * 42 := Nat.mul_le_mul_right _ h8
 unfold Yard.wt wtL
 simp only
 omega
theorem qK {y : Yard} (h : YardIs y) : ∀ r ∈ y.runs, r.wt ≤ 42 := by
 intro r hr
 obtain ⟨j, hj, rfl⟩ := getElem_of_mem hr
 exact ((h.run j _ (getElem?_eq_getElem hj)).1).wt
theorem PI.wt {y out : Yard} {home : Nat} (hy : YardIs y) (h : PI y out home) : out.wt ≤ 100000 :=
 aB1 (y := y) h.len h.each (by rw [h.runs]; exact hy.runs) (by rw [h.runs]; exact qK hy)
theorem PI.wtS {y out : Yard} {home : Nat} (hy : YardIs y) (h : PI y out home) {l : List Entry} (hl : l.length ≤ 80) : (kZ out home l).wt ≤ 100000 :=
 aB1 (y := y) (by show (out.shelf.set _ _).length = 4; rw [length_set]; exact h.len) (kD h.each hl h.len) (by rw [h.runs]; exact hy.runs) (by rw [h.runs]; exact qK hy)
theorem PI.ok {y out : Yard} {home : Nat} (hy : YardIs y) (h : PI y out home) : out.ok := by
 have h1 := hy.now; have h2 := hy.seq
 unfold Yard.ok I64
 rw [h.now, h.seq]; omega
theorem PI.sw {y out : Yard} {home : Nat} (h : PI y out home) {o : Int} (ho : 0 ≤ o ∧ o ≤ 3) : (aP out o).shelf.length = 4 ∧ ∀ s, s < 4 → ((aP out o).shelf.getD s []).length ≤ 80 := by
 rw [rU ho h.len]
 exact ⟨by show (out.shelf.set _ _).length = 4; rw [length_set]; exact h.len, kD h.each (Nat.le_trans (length_filter_le _ _) (h.each _ aA)) h.len⟩
theorem RunIs.tries {r : Run} (h : RunIs r) {i : Nat} {t : Task} (ht : r.tasks[i]? = some t) : (0 ≤ t.try_ ∧ t.try_ ≤ 5) ∧ 1 ≤ r.plan.wait ∧ r.plan.wait ≤ 20 := by
 obtain ⟨hi, rfl⟩ := gsi_.1 ht
 have h1 := (h.task i hi hi).2.2.1
 have h2 := (oL h.plan).1
 unfold aU at h2
 omega
theorem runIx_runs {y y' : Yard} (h : y'.runs = y.runs) (id : Int) : bF y' id = bF y id := by unfold bF; rw [h]
theorem aR4 {xs : List Entry} (h : ¬ (xs.length : Int) = 0) : ¬ xs = [] := fun e => h (by rw [e]; rfl)
theorem nil0 {xs : List Entry} (h : (xs.length : Int) = 0) : xs = [] := eq_nil_of_length_eq_zero aA
theorem flt_t {α : Type} {p : α → Bool} {l : List α} {k : Nat} {e : α} (h : l[k]? = some e) (hp : p e = true) : (l.take k).filter p ++ [e] = (l.take (k + 1)).filter p := by
 rw [← cG h, filter_append, filter_cons_of_pos hp]; rfl
theorem flt_f {α : Type} {p : α → Bool} {l : List α} {k : Nat} {e : α} (h : l[k]? = some e) (hp : p e = false) : (l.take k).filter p = (l.take (k + 1)).filter p := by
 rw [← cG h, filter_append, filter_cons_of_neg (by rw [hp]; simp)]; simp
theorem flt_all {α : Type} {p : α → Bool} {l : List α} {k : Nat} (h : ¬ (k : Int) < l.length) : (l.take k).filter p = l.filter p := by rw [take_of_length_le aA]
theorem flt_len {α : Type} {p : α → Bool} {l : List α} {k : Nat} : ((l.take k).filter p).length ≤ l.length := Nat.le_trans (length_filter_le _ _) (by rw [length_take]; omega)
theorem sw_no {y : Yard} {sh : Int} (h : inB sh 0 ((y.shelf.length : Int) - 1) = false) : y = aP y sh := by unfold aP; rw [if_neg (by rw [h]; simp)]
theorem sw_in {y : Yard} {sh : Int} {l : List Entry} (h : inB sh 0 ((y.shelf.length : Int) - 1) = true) (hl : y.shelf[sh.toNat]? = some l) : (⟨y.now, y.seq, y.shelf.set sh.toNat (l.filter (fresh y)), y.runs⟩ : Yard) = aP y sh := by
 unfold aP; rw [if_pos h, getD_eq_getElem?_getD, hl]; rfl
theorem aV1 (y : Yard) (sh : Int) (hw : y.wt ≤ 1048576) : Ct1 prog 329 [.S y, .I sh] [.S (aP y sh)] :=
 .one (aP y sh) (rk := fun x => [.S x]) <| vc func329 (fun (hg : gin [Par.S y, Par.I sh]) => let gy := hg.1.1
  let hsl := cV y hw
  .c func184 (dN y hw) (hg := ⟨gy, trivial⟩) fun _ => .m (y.shelf.length : Int) 1 (h := by unfold I64; omega) <| .c func138 (InV sh 0 ((y.shelf.length : Int) - 1)) fun _ => .v (inB sh 0 ((y.shelf.length : Int) - 1))
   (fun h => .rt y ⟨sw_no h, gy, trivial⟩)
   (fun h => .ex (pH h) fun l hl => let hll := gC hl hw
    .e Entry <| .l (Γ := Nat) (fun k => k ≤ l.length) (fun k => l.length - k) [1, 2, 4, 5] [2, 3, 4, 5, 6] [0, 1] (fun k => [vR 6 7, vI 7 k]) (fun k => [oR 7 243 ((l.take k).filter (fresh y))]) 0 fun k hk tk =>
     let hfl : ((l.take k).filter (fresh y)).length ≤ l.length := flt_len
     .ye hl sh (he := fV h) fun _ => .s ((k : Int) < l.length)
      (fun h2 => .ye hl sh (he := fV h) fun _ => .x l k (h := by omega) fun e he ge => .c func374 (aV8 y e hw) (hg := ⟨gy, ge, trivial⟩) fun _ => .sb (fresh y e)
       (fun h3 => .ye hl sh (he := fV h) fun _ => .y he fun _ => .a ((l.take k).filter (fresh y)) e 32 (hy := ge) (h63 := by unfold maxLen; omega) (hby := by omega) <| .g 7 (flt_t he h3) <| .p k 1 (h := by unfold I64; omega) <| .n tk (k + 1) [])
       (fun h3 => .g 7 (flt_f he h3) <| .p k 1 (h := by unfold I64; omega) <| .n tk (k + 1) []))
      (fun h2 => .g 7 (flt_all (p := fresh y) h2) <| .sh 7 <| .d 4 hl fun _ => .ie sh.toNat sh (he := fV h) <| .wt 55 <| .f 4 y.shelf (l.filter (fresh y)) (h := trivial) <|
       .rt ⟨y.now, y.seq, y.shelf.set sh.toNat (l.filter (fresh y)), y.runs⟩ ⟨sw_in h hl, gy, trivial⟩))) aB
theorem st_ok {r : Run} {t : Task} {now : Int} (g : t.ok) (h : I64 (t.try_ + 1)) (h2 : I64 (now + r.plan.wait)) : Task.ok ⟨3, t.need, t.try_ + 1, now + r.plan.wait⟩ := ⟨by show I64 3; unfold I64; omega, g.2.1, h, h2⟩
theorem Started_s (r : Run) (task now : Int) (t : Task) (h0 : 0 ≤ task) (ht : r.tasks[task.toNat]? = some t) (hn : 0 ≤ now ∧ now ≤ 999999980) (hR : RunIs r) : Ct1 prog 334 [.S r, .I task, .I now] [.S (fY r task.toNat t now)] :=
 vc func334 (fun (hg : gin [Par.S r, Par.I task, Par.I now]) => let gr := hg.1.1
  let htr := hR.tries ht
  let h1 : I64 (t.try_ + 1) := (by unfold I64; omega)
  let h2 : I64 (now + r.plan.wait) := (by unfold I64; omega)
  .c func288 (jS r (wC hR).1 (wC hR).2) (hg := ⟨gr, trivial⟩) fun _ => .ye ht task (he := by omega) fun gt => .p t.try_ 1 (h := h1) <| .p now r.plan.wait (h := h2) <|
   .d 5 ht fun _ => .ie task.toNat task (he := by omega) <| .wt 32 <| .f 5 r.tasks ⟨3, t.need, t.try_ + 1, now + r.plan.wait⟩ (h := st_ok gt h1 h2) <| .rt () ⟨trivial, gr, trivial⟩) aB
def tP (home : Int) : List Int := [(home + 1) % 4, (home + 2) % 4, (home + 3) % 4]
theorem oth_sp {home draw d : Int} (hd : d = max draw 0 % 3) : (tP home).drop d.toNat ++ (tP home).take d.toNat = aZ home draw := oth_vict hd
theorem Victims_s (home draw : Int) (hh : 0 ≤ home ∧ home ≤ 3) (hd : I64 draw) : Ct1 prog 330 [.I home, .I draw] [.L (aZ home draw)] :=
 .one (aZ home draw) (rk := fun l => [.L l]) <| vc func330 (fun hg =>
  let fin : ∀ d : Int, d = max draw 0 → D prog (fun l : List Int => l = aZ home draw ∧ rgd [Rk.L l]) := fun d he =>
   let h0 : 0 ≤ d ∧ d ≤ 9223372036854775807 := (by unfold I64 at hd; omega)
   let hl3 : (tP home).length = 3 := rfl
   .e Int <| .l (Γ := Nat) (fun k => 1 ≤ k ∧ k ≤ 4) (fun k => 4 - k) [777777, 12] [777777] [777777] (fun k => [vI 6 k, vR 5 0]) (fun k => [oR 0 3 (iH home k)]) 1 (h := ⟨Nat.le_refl _, by omega⟩) fun k hk t =>
    let hol : (iH home k).length ≤ 3 := (by unfold iH; rw [length_take]; simp only [length_cons, length_nil]; omega)
    .s ((k : Int) < 4)
    (fun h => .p home (k : Int) (h := by unfold I64; omega) <| .q (home + k) 4 (h := by omega) <| .a (iH home k) ((home + k) % 4) 8 (hy := by show I64 _; unfold I64; omega) (h63 := by unfold maxLen; omega) (hby := by omega) <| .g 0 (oth_to (home := home) hk.1 aA).symm <| .p k 1 (h := by unfold I64; omega) <| .n t (k + 1) [] (h1 := ⟨by omega, by omega⟩))
    (fun h => .sh 0 <| .g 0 (show iH home k = tP home by rw [show k = 4 by omega]; rfl) <| .q d 3 (h := by omega) <|
     .dp inferInstance (tP home) (d % 3).toNat aA (d % 3) aA <| .tk inferInstance (tP home) (d % 3).toNat aA (d % 3) aA <| .e Int <| .as (inferInstance : Shape Int) nK [] ((tP home).drop (d % 3).toNat) 8 (by rw [length_drop, hl3]; simp only [length_nil]; unfold maxLen; omega) (by rw [length_drop, hl3]; simp only [length_nil]; omega) <| .re inferInstance 2 0 (tP home) (d % 3).toNat aA <| .as (inferInstance : Shape Int) nK ((tP home).drop (d % 3).toNat) ((tP home).take (d % 3).toNat) 8 (by rw [length_drop, length_take, hl3]; unfold maxLen; omega) (by rw [length_drop, length_take, hl3]; omega) <|
     .rt ((tP home).drop (d % 3).toNat ++ (tP home).take (d % 3).toNat) ⟨oth_sp (by rw [he]), trivial⟩)
  .c func117 (BroughtSD home 0 3) fun _ => .rv 9 (I home) (y := I (lH home 0 3)) (bD6 hh) <| .s (draw < 0)
   (fun h => fin 0 aA)
   (fun h => fin draw aA)) aB
theorem aO2 {xs : List Entry} (h : (bE xs).2.2 = true) : xs = (bE xs).1 :: (bE xs).2.1 := by
 cases xs with
 | nil => cases h
 | cons e l => rfl
theorem aX4 {xs : List Entry} (h : (bE xs).2.2 = false) : xs = [] := by
 cases xs with
 | nil => rfl
 | cons e l => cases h
theorem kB (worker : Int) : worker % 4 = (((worker % 4).toNat : Nat) : Int) := by omega
theorem aQ7 {y : Yard} (hY : YardIs y) (w draw : Int) (k : Nat) : PI y (cZ (w % 4).toNat (aP y (w % 4)) ((aZ (w % 4) draw).take k)) (w % 4).toNat := by
 have h := PI.take hY (home := (w % 4).toNat) aA (l := aZ (w % 4) draw) (fun o ho => by have := kG (home := w % 4) aA o ho; omega) k
 rwa [← kB] at h
theorem uD {y out : Yard} {h : Nat} (hP : PI y out h) (hh : h < 4) : out.shelf[h]? = some (out.shelf.getD h []) := getD_some (by have := hP.len; omega)
theorem pl_rob {y out : Yard} {h : Nat} {o : Int} (hP : PI y out h) (hh : h < 4) (ho : 0 ≤ o ∧ o ≤ 3 ∧ o ≠ (h : Int)) : ∃ q : List Entry × List Entry, (aP out o).shelf[o.toNat]? = some q.1 ∧ ((aP out o).shelf.set o.toNat (q.1.drop (bS q.1)))[h]? = some q.2 ∧ q.1.length ≤ 80 ∧ q.2.length ≤ 80 ∧
  (⟨(aP out o).now, (aP out o).seq, ((aP out o).shelf.set o.toNat (q.1.drop (bS q.1))).set h (cL q.2 (q.1.take (bS q.1))), (aP out o).runs⟩ : Yard) = aC3 (aP out o) h o.toNat := by
 have hs := hP.sw (o := o) aA
 have hne : h ≠ o.toNat := by omega
 refine ⟨((aP out o).shelf.getD o.toNat [], (aP out o).shelf.getD h []), getD_some aA, ?_, hs.2 _ aA, hs.2 _ hh, ?_⟩
 ·rw [getElem?_set_ne (fun e => hne e.symm)]; exact getD_some aA
 rw [robY_comm hne]; rfl
theorem pl_8 {y : Yard} {w d : Int} (h : aI y = false) : (y, (⟨8, 0, 0, 0⟩ : Reply)) = eH y w d := by unfold eH; rw [if_pos (by rw [h]; simp)]
theorem pl_5 {y : Yard} {w d : Int} (h0 : aI y = true) (h : inB w 0 99 = false) : (y, (⟨5, 0, 0, 0⟩ : Reply)) = eH y w d := by unfold eH; rw [if_neg (by rw [h0]; simp), if_pos (by rw [h]; simp)]
theorem pl_0 {y out : Yard} {w d : Int} (h0 : aI y = true) (h : inB w 0 99 = true) (ho : out = cZ (w % 4).toNat (aP y (w % 4)) (aZ (w % 4) d)) : mR out (w % 4).toNat = eH y w d := by unfold eH; rw [if_neg (by rw [h0]; simp), if_neg (by rw [h]; simp), ← ho]
structure PlA (y out : Yard) (home : Nat) (e : Entry) (k : Nat) (r : Run) (t : Task) : Prop where
 ix : bF out e.run = some k
 hr : out.runs[k]? = some r
 h0 : 0 ≤ e.task
 ht : r.tasks[e.task.toNat]? = some t
 is : RunIs r
theorem pl_at {y out : Yard} {h : Nat} {e : Entry} (hY : YardIs y) (hP : PI y out h) (he : e ∈ out.shelf.getD h []) : ∃ q : Nat × Run × Task, PlA y out h e q.1 q.2.1 q.2.2 := by
 obtain ⟨k, r, t, hix, hry, h0, hti, h2⟩ := fresh_at (hP.fresh e he)
 exact ⟨(k, r, t), ⟨(runIx_runs hP.runs _).trans hix, by rw [hP.runs]; exact hry, h0, hti, (hY.run k r hry).1⟩⟩
theorem aL6 {a b c d : Int} (ha : I64 a) (hb : I64 b) (hc : I64 c) (hd : I64 d) : Reply.ok ⟨a, b, c, d⟩ := ⟨ha, hb, hc, hd⟩
theorem yT (a : Int) (h : 0 ≤ a ∧ a ≤ 100) : Reply.ok ⟨a, 0, 0, 0⟩ := aL6 (by unfold I64; omega) (by unfold I64; omega) (by unfold I64; omega) (by unfold I64; omega)
theorem Poll_s (y : Yard) (w d : Int) (hw : y.wt ≤ 1048576) (hd : I64 d) : Ct1 prog 220 [.S y, .I w, .I d] [.S (eH y w d).1, .S (eH y w d).2] :=
 .one (eH y w d) (rk := fun q => [.S q.1, .S q.2]) <| vc func220 (fun (hg : gin [Par.S y, Par.I w, Par.I d]) => let gy := hg.1.1
  .c func185 (iU y hw) (hg := ⟨gy, trivial⟩) fun _ => .v (aI y)
   (fun h => .c func184 (dN y hw) (hg := ⟨gy, trivial⟩) fun _ => .rt (y, ⟨8, 0, 0, 0⟩) ⟨pl_8 h, gy, yT 8 aA, trivial⟩)
   (fun hy => let hY := fW hy
    .c func138 (InV w 0 99) fun _ => .v (inB w 0 99)
    (fun h => .c func184 (dN y hw) (hg := ⟨gy, trivial⟩) fun _ => .rt (y, ⟨5, 0, 0, 0⟩) ⟨pl_5 hy h, gy, yT 5 aA, trivial⟩)
    (fun hin => let hwk := inB_iff.1 hin
     .q w 4 (h := by omega) <| .c func329 (aV1 y (w % 4) hw) (hg := ⟨gy, trivial⟩) fun _ => .c func330 (Victims_s (w % 4) d aA hd) fun _ =>
     let fin : ∀ (m : Nat) (out : Yard), out = cZ (w % 4).toNat (aP y (w % 4)) (aZ (w % 4) d) → PI y out (w % 4).toNat → out.ok → D prog (fun q : Yard × Reply => q = eH y w d ∧ rgd [Rk.S q.1, Rk.S q.2]) := fun m out ho hP go =>
      let hl := uD hP (show (w % 4).toNat < 4 by omega)
      let h80 := hP.each (w % 4).toNat aA
      .ye hl (w % 4) (he := kB w) fun _ => .c func333 (TakeEntry_s (out.shelf.getD (w % 4).toNat []) aA) fun gt => .v (bE (out.shelf.getD (w % 4).toNat [])).2.2
       (fun hn => .rt (out, ⟨9, 0, 0, 0⟩) ⟨by rw [← pl_0 hy hin ho]; exact (wL (aX4 hn)).symm, go, yT 9 aA, trivial⟩)
       (fun hn => let hcs := aO2 hn
        .ex (pl_at hY hP (show (bE (out.shelf.getD (w % 4).toNat [])).1 ∈ out.shelf.getD (w % 4).toNat [] by rw [hcs]; exact mem_cons_self)) fun q hq =>
        let hnow : 0 ≤ out.now ∧ out.now ≤ 999999980 := (by rw [hP.now]; exact hY.now)
        let hrl : (bE (out.shelf.getD (w % 4).toNat [])).2.1.length ≤ 80 := (by have h_ := h80; rw [hcs] at h_; simp only [length_cons] at h_; omega)
        .d 5 hl fun _ => .ie (w % 4).toNat (w % 4) (he := kB w) <| .wt 109 <| .f 5 out.shelf (bE (out.shelf.getD (w % 4).toNat [])).2.1 (h := trivial) <|
        .c func291 (iK ⟨out.now, out.seq, out.shelf.set (w % 4).toNat (bE (out.shelf.getD (w % 4).toNat [])).2.1, out.runs⟩ (bE (out.shelf.getD (w % 4).toNat [])).1.run (Nat.le_trans (hP.wtS hY hrl) aA)) (hg := ⟨go, trivial⟩) fun _ =>
        .d 6 hq.hr fun gr => .ie q.1 (aD ⟨out.now, out.seq, out.shelf.set (w % 4).toNat (bE (out.shelf.getD (w % 4).toNat [])).2.1, out.runs⟩ (bE (out.shelf.getD (w % 4).toNat [])).1.run) (he := bU hq.ix) <|
        .c func334 (Started_s q.2.1 (bE (out.shelf.getD (w % 4).toNat [])).1.task out.now q.2.2 hq.h0 hq.ht hnow hq.is) (hg := ⟨gr, trivial⟩) fun gs =>
        .ie q.1 (aD ⟨out.now, out.seq, out.shelf.set (w % 4).toNat (bE (out.shelf.getD (w % 4).toNat [])).2.1, out.runs⟩ (bE (out.shelf.getD (w % 4).toNat [])).1.run) (he := bU hq.ix) <| .wt 126 <| .f 6 out.runs (fY q.2.1 (bE (out.shelf.getD (w % 4).toNat [])).1.task.toNat q.2.2 out.now) (h := gs.1.1) <|
        let hr2 : (out.runs.set q.1 (fY q.2.1 (bE (out.shelf.getD (w % 4).toNat [])).1.task.toNat q.2.2 out.now))[q.1]? = some (fY q.2.1 (bE (out.shelf.getD (w % 4).toNat [])).1.task.toNat q.2.2 out.now) := getElem?_set_self (gsi_.1 hq.hr).1
        let ht2 : (fY q.2.1 (bE (out.shelf.getD (w % 4).toNat [])).1.task.toNat q.2.2 out.now).tasks[(bE (out.shelf.getD (w % 4).toNat [])).1.task.toNat]? = some ⟨3, q.2.2.need, q.2.2.try_ + 1, out.now + q.2.1.plan.wait⟩ := getElem?_set_self (gsi_.1 hq.ht).1
        .d 6 hr2 fun _ => .d m ht2 fun gu => .ie q.1 (aD ⟨out.now, out.seq, out.shelf.set (w % 4).toNat (bE (out.shelf.getD (w % 4).toNat [])).2.1, out.runs⟩ (bE (out.shelf.getD (w % 4).toNat [])).1.run) (he := bU hq.ix) <| .ie (bE (out.shelf.getD (w % 4).toNat [])).1.task.toNat (bE (out.shelf.getD (w % 4).toNat [])).1.task (he := by have := hq.h0; omega) <|
        .f m (fY q.2.1 (bE (out.shelf.getD (w % 4).toNat [])).1.task.toNat q.2.2 out.now).tasks ⟨3, q.2.2.need, q.2.2.try_ + 1, out.now + q.2.1.plan.wait⟩ (h := gu) <| .g m (qH ht2) <| .f 6 (out.runs.set q.1 (fY q.2.1 (bE (out.shelf.getD (w % 4).toNat [])).1.task.toNat q.2.2 out.now)) (fY q.2.1 (bE (out.shelf.getD (w % 4).toNat [])).1.task.toNat q.2.2 out.now) (h := gs.1.1) <| .g 6 (qH hr2) <|
        .rt (⟨out.now, out.seq, out.shelf.set (w % 4).toNat (bE (out.shelf.getD (w % 4).toNat [])).2.1, out.runs.set q.1 (fY q.2.1 (bE (out.shelf.getD (w % 4).toNat [])).1.task.toNat q.2.2 out.now)⟩, ⟨0, (bE (out.shelf.getD (w % 4).toNat [])).1.run, (bE (out.shelf.getD (w % 4).toNat [])).1.task, q.2.2.try_ + 1⟩)
         ⟨by rw [← pl_0 hy hin ho]; exact (zM hcs hq.ix hq.hr hq.ht).symm, go, aL6 (by unfold I64; omega) gt.1.1.2.2.1 gt.1.1.2.2.2 (show Task.ok _ from gu).2.2.1, trivial⟩)
     .l (Γ := Nat × Yard) (fun g => g.1 ≤ 3 ∧ g.2 = cZ (w % 4).toNat (aP y (w % 4)) ((aZ (w % 4) d).take g.1)) (fun g => 3 - g.1) [6, 7, 8, 9, 10] [3, 4, 8] [] (fun g => [vI 11 g.1]) (fun g => ryS g.2 7 5 6) (0, aP y (w % 4)) (h := ⟨Nat.zero_le _, (tA _ _ _).symm⟩) fun g hJ tk =>
      let hP : PI y g.2 (w % 4).toNat := (by rw [hJ.2]; exact aQ7 hY w d g.1)
      let hl := uD hP (show (w % 4).toNat < 4 by omega)
      let go : g.2.ok := hP.ok hY
      .s ((g.1 : Int) < (aZ (w % 4) d).length)
       (fun hlt => .ye hl (w % 4) (he := kB w) fun _ => .s (((g.2.shelf.getD (w % 4).toNat []).length : Int) = 0)
        (fun hem => .ex (p := fun o => (aZ (w % 4) d)[g.1]? = some o) ⟨_, getElem?_eq_getElem (show g.1 < (aZ (w % 4) d).length by omega)⟩ fun o hk =>
         let hor := kG (home := w % 4) (draw := d) aA o (mem_of_getElem? hk)
         .ex (pl_rob hP (show (w % 4).toNat < 4 by omega) (show 0 ≤ o ∧ o ≤ 3 ∧ o ≠ (((w % 4).toNat : Nat) : Int) by omega)) fun q hq =>
         .y hk fun _ => .c func329 (aV1 g.2 o (Nat.le_trans (hP.wt hY) aA)) (hg := ⟨go, trivial⟩) fun gs =>
         .y hk fun _ => .ye hq.1 o (he := by omega) fun _ => .c func331 (HalfOf_s q.1 (by have := hq.2.2.1; omega)) fun _ =>
         .d 12 hq.1 fun _ => .y hk fun _ => .ie o.toNat o (he := by omega) <| .wt 78 <| .f 12 (aP g.2 o).shelf (q.1.drop (bS q.1)) (h := trivial) <|
         .d 12 hq.2.1 fun _ => .ie (w % 4).toNat (w % 4) (he := kB w) <| .c func332 (Merged_s q.2 (q.1.take (bS q.1)) (by have := hq.2.2.2.1; omega) (by have := hq.2.2.1; rw [length_take]; omega)) fun _ => .ie (w % 4).toNat (w % 4) (he := kB w) <| .wt 51 <| .f 12 ((aP g.2 o).shelf.set o.toNat (q.1.drop (bS q.1))) (cL q.2 (q.1.take (bS q.1))) (h := trivial) <|
         .p g.1 1 (h := by unfold I64; omega) <| .n tk (g.1 + 1, ⟨(aP g.2 o).now, (aP g.2 o).seq, ((aP g.2 o).shelf.set o.toNat (q.1.drop (bS q.1))).set (w % 4).toNat (cL q.2 (q.1.take (bS q.1))), (aP g.2 o).runs⟩) [(5, 12), (6, 13)]
          (h1 := ⟨by show g.1 + 1 ≤ 3; have : (aZ (w % 4) d).length = 3 := rfl; omega, by rw [yQ hk (by rw [← hJ.2]; exact nil0 hem), ← hJ.2]; exact hq.2.2.2.2⟩) (h2 := by show 3 - (g.1 + 1) < _; have : (aZ (w % 4) d).length = 3 := rfl; omega))
        (fun hem => fin 24 g.2 (by rw [hJ.2]; exact (vL (by rw [← hJ.2]; exact aR4 hem)).symm) hP go))
       (fun hlt => fin 22 g.2 (by rw [hJ.2]; exact vM (by have : (aZ (w % 4) d).length = 3 := rfl; omega)) hP go)))) aB
def num (n : Int) : Bool := inB n 0 1000000000
def zP : Plan := ⟨0, 0, 0, 0, []⟩
def kI (d : Deed) : Deed :=
 if d.kind = 1 then ⟨d.kind, d.run, d.plan, 0, 0, 0, 0⟩
 else if d.kind = 2 then ⟨d.kind, 0, zP, 0, 0, d.worker, d.draw⟩
 else if d.kind = 3 ∨ d.kind = 4 then ⟨d.kind, d.run, zP, d.task, d.try_, 0, 0⟩
 else if d.kind = 6 ∨ d.kind = 7 then ⟨d.kind, d.run, zP, 0, 0, 0, 0⟩
 else ⟨d.kind, 0, zP, 0, 0, 0, 0⟩
def cW (es : List Edge) : List Int := es.flatMap (fun e => [e.from_, e.to_])
theorem edgeNums_s {es : List Edge} {k : Nat} (h : k < es.length) : cW (es.take (k + 1)) = cW (es.take k) ++ [es[k].from_, es[k].to_] := by
 unfold cW
 rw [take_succ_eq_append_getElem h, flatMap_append]; rfl
theorem mD : ∀ (es : List Edge), (cW es).length = 2 * es.length
 | [] => rfl
 | e :: es => by have := mD es; unfold cW at *; simp only [flatMap_cons, length_append, length_cons, length_nil, this]; omega
def aY (d : Deed) : List Int :=
 if d.kind = 1 then [d.run, d.plan.prio, d.plan.most, d.plan.wait, d.plan.tasks, (d.plan.edges.length : Int)] ++ cW d.plan.edges
 else if d.kind = 2 then [d.worker, d.draw]
 else if d.kind = 3 ∨ d.kind = 4 then [d.run, d.task, d.try_]
 else if d.kind = 6 ∨ d.kind = 7 then [d.run]
 else []
theorem deedNums_len (d : Deed) : (aY d).length ≤ 6 + 2 * d.plan.edges.length := by
 unfold aY
 have := mD d.plan.edges
 split
 ·simp only [length_append, length_cons, length_nil, this]; omega
 split
 ·simp; omega
 split
 ·simp; omega
 split <;> simp <;> omega
def aX (d : Deed) : Bool := inB d.kind 1 8 && decide (d.plan.edges.length ≤ 31) && eqB d (kI d) && !((aY d).any (fun n => !num n))
def eF (p : Plan) : Bool := num p.prio && num p.most && num p.wait && num p.tasks && decide (p.edges.length ≤ 31) && !(p.edges.any (fun e : Edge => !(num e.from_ && num e.to_)))
def gA (p : Plan) : Bool := decide (p.prio = 0) && decide (p.most = 0) && decide (p.wait = 0) && decide (p.tasks = 0) && decide (p.edges.length = 0)
theorem lQ {p : Plan} : gA p = true ↔ p = zP := by
 cases p
 simp [gA, zP, length_eq_zero_iff, and_assoc]
theorem any_edges (es : List Edge) : (cW es).any (fun n => !num n) = es.any (fun e : Edge => !(num e.from_ && num e.to_)) := by
 unfold cW
 rw [any_flatMap]
 congr 1
 funext e
 simp
theorem deedOk_0 {d : Deed} (h : inB d.kind 1 8 = false) : aX d = false := by unfold aX; rw [h]; rfl
theorem nZ : num 0 = true := rfl
theorem num_len {n : Nat} (h : n ≤ 31) : num (n : Int) = true := by unfold num; rw [inB_iff']; omega
theorem aK4 {d : Deed} (h : d.kind = 1) : aX d = (num d.run && decide (d.task = 0) && decide (d.try_ = 0) && decide (d.worker = 0) && decide (d.draw = 0) && eF d.plan) := by
 obtain ⟨k, r, p, t, y, w, dr⟩ := d
 simp only at h
 subst h
 have h1 : eqB (⟨1, r, p, t, y, w, dr⟩ : Deed) (kI ⟨1, r, p, t, y, w, dr⟩) = (decide (t = 0) && decide (y = 0) && decide (w = 0) && decide (dr = 0)) := by
  rw [Bool.eq_iff_iff]; simp [eqB, kI, and_assoc]
 have h2 : inB (⟨1, r, p, t, y, w, dr⟩ : Deed).kind 1 8 = true := rfl
 unfold aX eF
 rw [h1, h2]
 by_cases hl : p.edges.length ≤ 31
 ·have hn := num_len hl
  simp only [aY, if_true, any_append, any_cons, any_nil, any_edges, hn, decide_eq_true hl, Bool.not_true, Bool.or_false, Bool.not_or, Bool.not_not, Bool.true_and, Bool.and_true]
  ac_rfl
 simp [hl]
theorem aK3 {d : Deed} (h : d.kind = 2) : aX d = (decide (d.run = 0) && decide (d.task = 0) && decide (d.try_ = 0) && num d.worker && num d.draw && gA d.plan) := by
 obtain ⟨k, r, p, t, y, w, dr⟩ := d
 simp only at h
 subst h
 rw [Bool.eq_iff_iff]
 simp only [aX, kI, aY, Bool.and_eq_true, lQ, eqB, decide_eq_true_eq, Deed.mk.injEq]
 simp [inB]
 constructor
 ·rintro ⟨⟨h1, h2, h3, h4, h5⟩, h6⟩; simp_all
 rintro h; simp_all [zP]
theorem rH {d : Deed} (h : d.kind = 3 ∨ d.kind = 4) : aX d = (num d.run && num d.task && num d.try_ && decide (d.worker = 0) && decide (d.draw = 0) && gA d.plan) := by
 obtain ⟨k, r, p, t, y, w, dr⟩ := d
 simp only at h
 rw [Bool.eq_iff_iff]
 have h1 : ¬ k = 1 := by omega
 have h2 : ¬ k = 2 := by omega
 have h8 : inB k 1 8 = true := by rw [inB_iff']; omega
 simp only [aX, kI, aY, Bool.and_eq_true, lQ, eqB, decide_eq_true_eq, Deed.mk.injEq, if_neg h1, if_neg h2, if_pos h, h8]
 simp
 constructor
 ·rintro ⟨⟨h1, h2, h3, h4⟩, h6⟩; simp_all
 rintro h; simp_all [zP]
theorem rF {d : Deed} (h : d.kind = 6 ∨ d.kind = 7) : aX d = (num d.run && decide (d.task = 0) && decide (d.try_ = 0) && decide (d.worker = 0) && decide (d.draw = 0) && gA d.plan) := by
 obtain ⟨k, r, p, t, y, w, dr⟩ := d
 simp only at h
 rw [Bool.eq_iff_iff]
 have h1 : ¬ k = 1 := by omega
 have h2 : ¬ k = 2 := by omega
 have h3 : ¬ (k = 3 ∨ k = 4) := by omega
 have h8 : inB k 1 8 = true := by rw [inB_iff']; omega
 simp only [aX, kI, aY, Bool.and_eq_true, lQ, eqB, decide_eq_true_eq, Deed.mk.injEq, if_neg h1, if_neg h2, if_neg h3, if_pos h, h8]
 simp
 constructor
 ·rintro ⟨⟨h1, h2, h3, h4⟩, h6⟩; simp_all
 rintro h; simp_all [zP]
theorem rG {d : Deed} (h : d.kind = 5 ∨ d.kind = 8) : aX d = (decide (d.run = 0) && decide (d.task = 0) && decide (d.try_ = 0) && decide (d.worker = 0) && decide (d.draw = 0) && gA d.plan) := by
 obtain ⟨k, r, p, t, y, w, dr⟩ := d
 simp only at h
 rw [Bool.eq_iff_iff]
 have h1 : ¬ k = 1 := by omega
 have h2 : ¬ k = 2 := by omega
 have h3 : ¬ (k = 3 ∨ k = 4) := by omega
 have h4 : ¬ (k = 6 ∨ k = 7) := by omega
 have h8 : inB k 1 8 = true := by rw [inB_iff']; omega
 simp only [aX, kI, aY, Bool.and_eq_true, lQ, eqB, decide_eq_true_eq, Deed.mk.injEq, if_neg h1, if_neg h2, if_neg h3, if_neg h4, h8]
 simp
 constructor
 ·rintro ⟨h1, h2, h3, h4⟩; simp_all
 rintro h; simp_all [zP]

def mE (d : Deed) : Bool := ((((((((!decide (d.kind = 2)) && (!decide (d.kind = 5))) && (!decide (d.kind = 8))) && (!(num d.run))) || ((!(((!decide (d.kind = 2)) && (!decide (d.kind = 5))) && (!decide (d.kind = 8)))) && (!decide (d.run = 0)))) || (((decide (d.kind = 3)) || (decide (d.kind = 4))) && ((!(num d.task)) || (!(num d.try_))))) || ((!((decide (d.kind = 3)) || (decide (d.kind = 4)))) && ((!decide (d.task = 0)) || (!decide (d.try_ = 0))))) || ((decide (d.kind = 2)) && ((!(num d.worker)) || (!(num d.draw))))) || ((!decide (d.kind = 2)) && ((!decide (d.worker = 0)) || (!decide (d.draw = 0))))
theorem deedS_f {d : Deed} (hi : 1 ≤ d.kind ∧ d.kind ≤ 8) (he : mE d = true) : aX d = false := by
 unfold mE at he
 have hkk : d.kind = 1 ∨ d.kind = 2 ∨ d.kind = 3 ∨ d.kind = 4 ∨ d.kind = 5 ∨ d.kind = 6 ∨ d.kind = 7 ∨ d.kind = 8 := by omega
 rcases hkk with hk | hk | hk | hk | hk | hk | hk | hk
 ·rw [aK4 hk]; simp [hk] at he ⊢; first | done | grind | (simp_all [nZ]; done)
 ·rw [aK3 hk]; simp [hk] at he ⊢; first | done | grind | (simp_all [nZ]; done)
 ·rw [rH (.inl hk)]; simp [hk] at he ⊢; first | done | grind | (simp_all [nZ]; done)
 ·rw [rH (.inr hk)]; simp [hk] at he ⊢; first | done | grind | (simp_all [nZ]; done)
 ·rw [rG (.inl hk)]; simp [hk] at he ⊢; first | done | grind | (simp_all [nZ]; done)
 ·rw [rF (.inl hk)]; simp [hk] at he ⊢; first | done | grind | (simp_all [nZ]; done)
 ·rw [rF (.inr hk)]; simp [hk] at he ⊢; first | done | grind | (simp_all [nZ]; done)
 rw [rG (.inr hk)]; simp [hk] at he ⊢; first | done | grind | (simp_all [nZ]; done)
theorem tq1_ {P : Prop} (h : P := by
 unfold mE at he
 have hkk : d.kind = 1 ∨ d.kind = 2 ∨ d.kind = 3 ∨ d.kind = 4 ∨ d.kind = 5 ∨ d.kind = 6 ∨ d.kind = 7 ∨ d.kind = 8 := by omega
 rcases hkk with hk | hk | hk | hk | hk | hk | hk | hk
 ·rw [aK4 hk]; simp [hk] at he hx ⊢; first | done | grind | (simp_all [nZ]; done)
 ·rw [aK3 hk]; simp [hk] at he hx ⊢; first | done | grind | (simp_all [nZ]; done)
 ·rw [rH (.inl hk)]; simp [hk] at he hx ⊢; first | done | grind | (simp_all [nZ]; done)
 ·rw [rH (.inr hk)]; simp [hk] at he hx ⊢; first | done | grind | (simp_all [nZ]; done)
 ·rw [rG (.inl hk)]; simp [hk] at he hx ⊢; first | done | grind | (simp_all [nZ]; done)
 ·rw [rF (.inl hk)]; simp [hk] at he hx ⊢; first | done | grind | (simp_all [nZ]; done)
 ·rw [rF (.inr hk)]; simp [hk] at he hx ⊢; first | done | grind | (simp_all [nZ]; done)
 rw [rG (.inr hk)]; simp [hk] at he hx ⊢; first | done | grind | (simp_all [nZ]; done)) : P := h
theorem deedS_1 {d : Deed} (hi : 1 ≤ d.kind ∧ d.kind ≤ 8) (he : mE d = false) (hx : d.kind = 1) : aX d = eF d.plan := by exact tq1_
theorem deedS_n {d : Deed} (hi : 1 ≤ d.kind ∧ d.kind ≤ 8) (he : mE d = false) (hx : ¬ d.kind = 1) : aX d = gA d.plan := by exact tq1_
theorem nS {α : Type} [DecidableEq α] {xs ys : List α} (h : ¬ (xs.length : Int) = ys.length) : false = eqB xs ys := (kQ fun e => h (by rw [e])).symm
theorem mC {α : Type} [DecidableEq α] {xs ys : List α} {k : Nat} {x y : α} (hx : xs[k]? = some x) (hy : ys[k]? = some y) (h : eqB x y = false) : false = eqB xs ys := (kQ fun e => by rw [e, hy] at hx; cases hx; rw [dQ rfl] at h; cases h).symm
theorem lC {α : Type} [DecidableEq α] {xs ys : List α} {k : Nat} {x y : α} (h : xs.take k = ys.take k) (hx : xs[k]? = some x) (hy : ys[k]? = some y) (he : eqB x y = true) : xs.take (k + 1) = ys.take (k + 1) := by
 rw [← cG hx, ← cG hy, h, eqB_iff.1 he]
theorem nT {α : Type} [DecidableEq α] {xs ys : List α} {k : Nat} (hl : (xs.length : Int) = ys.length) (h : xs.take k = ys.take k) (hk : ¬ (k : Int) < xs.length) : xs = ys := by
 rw [take_of_length_le aA, take_of_length_le aA] at h; exact h
theorem rC {α : Type} [DecidableEq α] {xs ys : List α} {k : Nat} (hl : (xs.length : Int) = ys.length) (h : xs.take k = ys.take k) (hk : ¬ (k : Int) < xs.length) : true = eqB xs ys := (dQ (nT hl h hk)).symm
theorem EqualEdge_i (xs ys : List Edge) : Ct1 prog 403 [.L xs, .L ys] [.B (eqB xs ys)] :=
 .one (eqB xs ys) (rk := fun b => [.B b]) <| vc func403 (fun (hg : gin [Par.L xs, Par.L ys]) => let h1 := hg.1
  .u ((xs.length : Int) = ys.length)
   (fun h => .rt false ⟨nS h, trivial⟩)
   (fun h => .l (Γ := Nat) (fun k => k ≤ xs.length ∧ xs.take k = ys.take k) (fun k => xs.length - k) [0, 1, 12] [] [0, 1] (fun k => [vI 13 k]) (fun k => []) 0 (h := ⟨Nat.zero_le _, rfl⟩) fun k hk t => .s ((k : Int) < xs.length)
    (fun h2 => .x xs k (h := by omega) fun e he ge => .x ys k (h := by omega) fun f hf gf => .qe (uA e f) aB <| .v (eqB e f)
     (fun h3 => .rt false ⟨mC he hf h3, trivial⟩)
     (fun h3 => .p k 1 (h := by unfold I64; omega) <| .n t (k + 1) [] (h1 := ⟨by omega, lC hk.2 he hf h3⟩)))
    (fun h2 => .rt true ⟨rC h hk.2 h2, trivial⟩))) aB
theorem fS {α : Type} [DecidableEq α] {x y : α} {p : Prop} (h : ¬ p) (k : x = y → p) : false = eqB x y := (kQ fun e => h (k e)).symm
theorem bB9 {α β : Type} [DecidableEq α] [DecidableEq β] {x y : α} {a b : β} (f : a = b → x = y) (g : x = y → a = b) : eqB a b = eqB x y := by unfold eqB; exact decide_eq_decide.2 ⟨f, g⟩
theorem xM (x y : Plan) : Ct1 prog 364 [.S x, .S y] [.B (eqB x y)] :=
 .one (eqB x y) (rk := fun b => [.B b]) <| vc func364 (fun (hg : gin [Par.S x, Par.S y]) =>
  .s (x.prio = y.prio) (fun h0 => .s (x.most = y.most) (fun h1 => .s (x.wait = y.wait) (fun h2 => .s (x.tasks = y.tasks)
   (fun h3 => .c func403 (EqualEdge_i x.edges y.edges) fun _ => .rt (eqB x.edges y.edges) ⟨bB9 (xP h0 h1 h2 h3) (fun e => by rw [e]), trivial⟩)
   (fun h => .rt false ⟨fS h (fun e => by rw [e]), trivial⟩)) (fun h => .rt false ⟨fS h (fun e => by rw [e]), trivial⟩)) (fun h => .rt false ⟨fS h (fun e => by rw [e]), trivial⟩)) (fun h => .rt false ⟨fS h (fun e => by rw [e]), trivial⟩)) aB
theorem usedOf_1 (d : Deed) (h : d.kind = 1) : Cb prog 265 [.S d] inferInstance (⟨d.kind, d.run, d.plan, 0, 0, 0, 0⟩ : Deed) :=
 vcb func265 (fun (hg : gin [Par.S d]) => .kt (d.kind = 1) h <| .rt () (show Deed.ok _ from by have g : d.ok := hg.1.1; unfold Deed.ok Plan.ok I64 at *; simp only; omega)) aB
theorem usedOf_2 (d : Deed) (h : d.kind = 2) : Cb prog 265 [.S d] inferInstance (⟨d.kind, 0, ⟨0, 0, 0, 0, []⟩, 0, 0, d.worker, d.draw⟩ : Deed) :=
 vcb func265 (fun (hg : gin [Par.S d]) => .kf (d.kind = 1) aA <| .kt (d.kind = 2) h <| .rt () (show Deed.ok _ from by have g : d.ok := hg.1.1; unfold Deed.ok Plan.ok I64 at *; simp only; omega)) aB
theorem usedOf_3 (d : Deed) (h : d.kind = 3) : Cb prog 265 [.S d] inferInstance (⟨d.kind, d.run, ⟨0, 0, 0, 0, []⟩, d.task, d.try_, 0, 0⟩ : Deed) :=
 vcb func265 (fun (hg : gin [Par.S d]) => .kf (d.kind = 1) aA <| .kf (d.kind = 2) aA <| .kt (d.kind = 3) h <| .rt () (show Deed.ok _ from by have g : d.ok := hg.1.1; unfold Deed.ok Plan.ok I64 at *; simp only; omega)) aB
theorem usedOf_4 (d : Deed) (h : d.kind = 4) : Cb prog 265 [.S d] inferInstance (⟨d.kind, d.run, ⟨0, 0, 0, 0, []⟩, d.task, d.try_, 0, 0⟩ : Deed) :=
 vcb func265 (fun (hg : gin [Par.S d]) => .kf (d.kind = 1) aA <| .kf (d.kind = 2) aA <| .kf (d.kind = 3) aA <| .kt (d.kind = 4) h <| .rt () (show Deed.ok _ from by have g : d.ok := hg.1.1; unfold Deed.ok Plan.ok I64 at *; simp only; omega)) aB
theorem usedOf_6 (d : Deed) (h : d.kind = 6) : Cb prog 265 [.S d] inferInstance (⟨d.kind, d.run, ⟨0, 0, 0, 0, []⟩, 0, 0, 0, 0⟩ : Deed) :=
 vcb func265 (fun (hg : gin [Par.S d]) => .kf (d.kind = 1) aA <| .kf (d.kind = 2) aA <| .kf (d.kind = 3) aA <| .kf (d.kind = 4) aA <| .kt (d.kind = 6) h <| .rt () (show Deed.ok _ from by have g : d.ok := hg.1.1; unfold Deed.ok Plan.ok I64 at *; simp only; omega)) aB
theorem usedOf_7 (d : Deed) (h : d.kind = 7) : Cb prog 265 [.S d] inferInstance (⟨d.kind, d.run, ⟨0, 0, 0, 0, []⟩, 0, 0, 0, 0⟩ : Deed) :=
 vcb func265 (fun (hg : gin [Par.S d]) => .kf (d.kind = 1) aA <| .kf (d.kind = 2) aA <| .kf (d.kind = 3) aA <| .kf (d.kind = 4) aA <| .kf (d.kind = 6) aA <| .kt (d.kind = 7) h <| .rt () (show Deed.ok _ from by have g : d.ok := hg.1.1; unfold Deed.ok Plan.ok I64 at *; simp only; omega)) aB
theorem usedOf_0 (d : Deed) (h : ¬ (d.kind = 1 ∨ d.kind = 2 ∨ d.kind = 3 ∨ d.kind = 4 ∨ d.kind = 6 ∨ d.kind = 7)) : Cb prog 265 [.S d] inferInstance (⟨d.kind, 0, ⟨0, 0, 0, 0, []⟩, 0, 0, 0, 0⟩ : Deed) :=
 vcb func265 (fun (hg : gin [Par.S d]) => .kf (d.kind = 1) aA <| .kf (d.kind = 2) aA <| .kf (d.kind = 3) aA <| .kf (d.kind = 4) aA <| .kf (d.kind = 6) aA <| .kf (d.kind = 7) aA <| .rt () (show Deed.ok _ from by have g : d.ok := hg.1.1; unfold Deed.ok Plan.ok I64 at *; simp only; omega)) aB
theorem UsedOf_i (d : Deed) : Cb prog 265 [.S d] inferInstance (kI d) := by
 unfold kI
 split
 ·next h => exact usedOf_1 d h
 split
 ·next h => exact usedOf_2 d h
 split
 ·next h =>
  rcases h with h | h
  ·exact usedOf_3 d h
  exact usedOf_4 d h
 split
 ·next h =>
  rcases h with h | h
  ·exact usedOf_6 d h
  exact usedOf_7 d h
 next h1 h2 h3 h4 => exact usedOf_0 d aA
theorem SameDeed_i (x y : Deed) : Ct1 prog 264 [.S x, .S y] [.B (eqB x y)] :=
 .one (eqB x y) (rk := fun b => [.B b]) <| vc func264 (fun (hg : gin [Par.S x, Par.S y]) =>
  let no : ∀ {p : Prop}, ¬ p → (x = y → p) → D prog (fun b : Bool => b = eqB x y ∧ rgd [Rk.B b]) := fun h k => .rt false ⟨fS h k, trivial⟩
  .s (x.kind = y.kind) (fun h0 => .s (x.run = y.run) (fun h1 => .c func364 (xM x.plan y.plan) (hg := ⟨(show x.ok from hg.1.1).2.2.1, (show y.ok from hg.2.1.1).2.2.1, trivial⟩) fun _ => .sb (eqB x.plan y.plan) (fun h2 => .s (x.task = y.task) (fun h3 => .s (x.try_ = y.try_) (fun h4 => .s (x.worker = y.worker)
   (fun h5 => .rt (decide (x.draw = y.draw)) ⟨by unfold eqB; exact decide_eq_decide.2 ⟨fun h6 => aK8 h0 h1 (eqB_iff.1 h2) h3 h4 h5 h6, fun e => by rw [e]⟩, trivial⟩)
   (fun h => no h (fun e => by rw [e]))) (fun h => no h (fun e => by rw [e]))) (fun h => no h (fun e => by rw [e]))) (fun h => no (p := eqB x.plan y.plan = true) (by rw [h]; simp) (fun e => by rw [e]; exact dQ rfl))) (fun h => no h (fun e => by rw [e]))) (fun h => no h (fun e => by rw [e]))) aB
theorem edges_s {es : List Edge} {k : Nat} {e : Edge} (h : es[k]? = some e) : cW (es.take k) ++ [e.from_, e.to_] = cW (es.take (k + 1)) := by
 obtain ⟨hk, rfl⟩ := gsi_.1 h
 exact (edgeNums_s hk).symm
abbrev oK (d : Deed) : List Int := [d.run, d.plan.prio, d.plan.most, d.plan.wait, d.plan.tasks, (d.plan.edges.length : Int)]
theorem good6 {d : Deed} (g : d.ok) (hl : d.plan.edges.length ≤ 1048576) : ∀ z ∈ oK d, Dsh.good z := by
 intro z hz
 have g1 : d.ok := g
 unfold Deed.ok Plan.ok at g1
 simp only [oK, mem_cons, not_mem_nil, or_false] at hz
 rcases hz with rfl | rfl | rfl | rfl | rfl | rfl
 ·exact g1.2.1
 ·exact g1.2.2.1.1
 ·exact g1.2.2.1.2.1
 ·exact g1.2.2.1.2.2.1
 ·exact g1.2.2.1.2.2.2
 show I64 _; unfold I64; omega
theorem nums_n {d : Deed} (h1 : ¬ d.kind = 1) (h2 : ¬ d.kind = 2) (h3 : ¬ (d.kind = 3 ∨ d.kind = 4)) (h4 : ¬ (d.kind = 6 ∨ d.kind = 7)) : [] = aY d := by unfold aY; rw [if_neg h1, if_neg h2, if_neg h3, if_neg h4]
theorem nums_6 {d : Deed} (h : d.kind = 6 ∨ d.kind = 7) : [d.run] = aY d := by unfold aY; rw [if_neg aA, if_neg aA, if_neg aA, if_pos h]
theorem nums_3 {d : Deed} (h : d.kind = 3 ∨ d.kind = 4) : [d.run, d.task, d.try_] = aY d := by unfold aY; rw [if_neg aA, if_neg aA, if_pos h]
theorem nums_2 {d : Deed} (h : d.kind = 2) : [d.worker, d.draw] = aY d := by unfold aY; rw [if_neg aA, if_pos h]
theorem nums_1 {d : Deed} (h : d.kind = 1) {k : Nat} (hk : ¬ (k : Int) < d.plan.edges.length) : oK d ++ cW (d.plan.edges.take k) = aY d := by unfold aY; rw [if_pos h, take_of_length_le aA]
theorem DeedNums_i (d : Deed) (hl : d.plan.edges.length ≤ 1048576) : Ct1 prog 204 [.S d] [.L (aY d)] :=
 .one (aY d) (rk := fun l => [.L l]) <| vc func204 (fun (hg : gin [Par.S d]) => let g : d.ok := hg.1.1
  let gi : Dsh Int := inferInstance
  .s (d.kind = 1)
   (fun h => .lr gi nK 28 (oK d) (by simp) (good6 g hl) <| .l (Γ := Nat) (fun k => k ≤ d.plan.edges.length) (fun k => d.plan.edges.length - k) [777777, 28] [777777] [777777] (fun k => [vI 33 k, vR 3 2]) (fun k => [oR 2 3 (oK d ++ cW (d.plan.edges.take k))]) 0 fun k hk t =>
    let hln : (oK d ++ cW (d.plan.edges.take k)).length ≤ 2097158 := (by rw [length_append, mD, length_take]; simp only [length_cons, length_nil]; omega)
    .s ((k : Int) < d.plan.edges.length)
    (fun h2 => .x d.plan.edges k (h := by omega) fun e he ge => .ap gi (oK d ++ cW (d.plan.edges.take k)) [e.from_, e.to_] (all2 (show e.ok from ge).1 (show e.ok from ge).2) 8 (by simp only [length_cons, length_nil]; unfold maxLen; omega) (by simp only [length_cons, length_nil]; omega) <| .g 2 (show oK d ++ cW (d.plan.edges.take k) ++ [e.from_, e.to_] = oK d ++ cW (d.plan.edges.take (k + 1)) by rw [append_assoc, edges_s he]) <| .p k 1 (h := by unfold I64; omega) <| .n t (k + 1) [])
    (fun h2 => .rt (oK d ++ cW (d.plan.edges.take k)) ⟨nums_1 h h2, trivial⟩))
   (fun h1 => .s (d.kind = 2)
    (fun h => .li gi 52 [d.worker, d.draw] (by simp) (by simp) (all2 g.2.2.2.2.2.1 g.2.2.2.2.2.2) <| .rt [d.worker, d.draw] ⟨nums_2 h, trivial⟩)
    (fun h2 => let three : d.kind = 3 ∨ d.kind = 4 → D prog (fun l : List Int => l = aY d ∧ rgd [Rk.L l]) := fun h => .li gi 62 [d.run, d.task, d.try_] (by simp) (by simp) (fun z hz => (mem_cons.1 hz).elim (fun e => by rw [e]; exact g.2.1) (all2 g.2.2.2.1 g.2.2.2.2.1 z)) <| .rt [d.run, d.task, d.try_] ⟨nums_3 h, trivial⟩
     let one : d.kind = 6 ∨ d.kind = 7 → D prog (fun l : List Int => l = aY d ∧ rgd [Rk.L l]) := fun h => .li gi 68 [d.run] (by simp) (by simp) (all1 g.2.1) <| .rt [d.run] ⟨nums_6 h, trivial⟩
     .s (d.kind = 3) (fun h => three (.inl h)) (fun h3 => .s (d.kind = 4) (fun h => three (.inr h)) (fun h4 => .s (d.kind = 6) (fun h => one (.inl h)) (fun h6 => .s (d.kind = 7) (fun h => one (.inr h)) (fun h7 => .rt [] ⟨nums_n h1 h2 aA aA, trivial⟩))))))) aB
theorem any_to {xs : List Int} {p : Int → Bool} {k : Nat} {n : Int} (h : xs[k]? = some n) (h0 : (xs.take k).any p = false) (hn : p n = false) : (xs.take (k + 1)).any p = false := by
 rw [← cG h, any_append, h0]; simp [hn]
theorem any_hit {xs : List Int} {p : Int → Bool} {k : Nat} {n : Int} (h : xs[k]? = some n) (hn : p n = true) : xs.any p = true := any_eq_true.2 ⟨n, mem_of_getElem? h, hn⟩
theorem dok_a {d : Deed} (h : inB d.kind 1 8 = false) : false = aX d := (deedOk_0 h).symm
theorem dok_b {d : Deed} (h : (31 : Int) < d.plan.edges.length) : false = aX d := by unfold aX; rw [decide_eq_false (show ¬ d.plan.edges.length ≤ 31 by omega)]; simp
theorem dok_c {d : Deed} (h : eqB d (kI d) = false) : false = aX d := by unfold aX; rw [h]; simp
theorem dok_d {d : Deed} (h : (aY d).any (fun n => !num n) = true) : false = aX d := by unfold aX; rw [h]; simp
theorem dok_e {d : Deed} (h1 : inB d.kind 1 8 = true) (h2 : ¬ (31 : Int) < d.plan.edges.length) (h3 : eqB d (kI d) = true) {k : Nat} (h4 : ((aY d).take k).any (fun n => !num n) = false) (hk : ¬ (k : Int) < (aY d).length) : true = aX d := by
 rw [take_of_length_le aA] at h4
 unfold aX; rw [h1, h3, h4, decide_eq_true (show d.plan.edges.length ≤ 31 by omega)]; rfl
theorem DeedOk_i (d : Deed) : Ct1 prog 151 [.S d] [.B (aX d)] :=
 .one (aX d) (rk := fun b => [.B b]) <| vc func151 (fun (hg : gin [Par.S d]) => let g : d.ok := hg.1.1
  .c func92 (cE d.kind 1 8) fun _ => .v (inB d.kind 1 8) (fun h1 => .rt false ⟨dok_a h1, trivial⟩) (fun h1 => .s ((31 : Int) < d.plan.edges.length) (fun h2 => .rt false ⟨dok_b h2, trivial⟩) (fun h2 =>
   .cb inferInstance (kI d) _ func265 (UsedOf_i d) ⟨g, trivial⟩ fun gu => .c func264 (SameDeed_i d (kI d)) (hg := ⟨g, gu, trivial⟩) fun _ => .v (eqB d (kI d)) (fun h3 => .rt false ⟨dok_c h3, trivial⟩) (fun h3 =>
   let hnl := deedNums_len d
   .c func204 (DeedNums_i d aA) (hg := ⟨g, trivial⟩) fun _ => .la (Γ := Nat) (fun k => k ≤ (aY d).length ∧ ((aY d).take k).any (fun n => !num n) = false) (fun k => (aY d).length - k) (fun k => [vI 26 k]) (fun k => []) 0 (h := ⟨Nat.zero_le _, rfl⟩) fun k hk t => .s ((k : Int) < (aY d).length)
    (fun h4 => .x (aY d) k (h := by omega) fun n hn gn => .c func92 (cE n 0 1000000000) fun _ => .v (inB n 0 1000000000)
     (fun h5 => .rt false ⟨dok_d (any_hit hn (by show (!inB n 0 1000000000) = true; rw [h5]; rfl)), trivial⟩)
     (fun h5 => .p k 1 (h := by unfold I64; omega) <| .n t (k + 1) [] (h1 := ⟨by omega, any_to hn hk.2 (by show (!inB n 0 1000000000) = false; rw [h5]; rfl)⟩)))
    (fun h4 => .rt true ⟨dok_e h1 h2 h3 hk.2 h4, trivial⟩))))) aB
theorem rN (n : Int) : Ct1 prog 241 [.I n] [.B (num n)] :=
 vc func241 (fun hg => .c func138 (InV n 0 1000000000) fun _ => .rt () ⟨trivial, trivial⟩) aB
theorem NoPlan_s (p : Plan) : Ct1 prog 324 [.S p] [.B (gA p)] :=
 .one (gA p) (rk := fun b => [.B b]) <| vc func324 (fun hg => .s (p.prio = 0) (fun h0 => .s (p.most = 0) (fun h1 => .s (p.wait = 0) (fun h2 => .s (p.tasks = 0)
  (fun h3 => .rt (decide ((p.edges.length : Int) = 0)) ⟨by unfold gA; simp [h0, h1, h2, h3], trivial⟩)
  (fun h => .rt false ⟨by unfold gA; simp [h], trivial⟩)) (fun h => .rt false ⟨by unfold gA; simp [h], trivial⟩)) (fun h => .rt false ⟨by unfold gA; simp [h], trivial⟩)) (fun h => .rt false ⟨by unfold gA; simp [h], trivial⟩)) aB
theorem anyE_to {xs : List Edge} {p : Edge → Bool} {k : Nat} {n : Edge} (h : xs[k]? = some n) (h0 : (xs.take k).any p = false) (hn : p n = false) : (xs.take (k + 1)).any p = false := by
 rw [← cG h, any_append, h0]; simp [hn]
theorem PlanNum_s (p : Plan) : Ct1 prog 323 [.S p] [.B (eF p)] :=
 .one (eF p) (rk := fun b => [.B b]) <| vc func323 (fun (hg : gin [Par.S p]) => let bad : eF p = false → D prog (fun b : Bool => b = eF p ∧ rgd [Rk.B b]) := fun h => .rt false ⟨h.symm, trivial⟩
  .c func241 (rN p.prio) fun _ => .v (num p.prio) (fun h0 => bad (by unfold eF; simp [h0])) (fun h0 =>
  .c func241 (rN p.most) fun _ => .v (num p.most) (fun h1 => bad (by unfold eF; simp [h1])) (fun h1 =>
  .c func241 (rN p.wait) fun _ => .v (num p.wait) (fun h2 => bad (by unfold eF; simp [h2])) (fun h2 =>
  .c func241 (rN p.tasks) fun _ => .v (num p.tasks) (fun h3 => bad (by unfold eF; simp [h3])) (fun h3 => .s ((31 : Int) < p.edges.length) (fun h4 => bad (by unfold eF; rw [decide_eq_false (show ¬ p.edges.length ≤ 31 by omega)]; simp)) (fun h4 =>
   .la (Γ := Nat) (fun k => k ≤ p.edges.length ∧ (p.edges.take k).any (fun e : Edge => !(num e.from_ && num e.to_)) = false) (fun k => p.edges.length - k) (fun k => [vI 3 k]) (fun k => []) 0 (h := ⟨Nat.zero_le _, rfl⟩) fun k hk t => .s ((k : Int) < p.edges.length)
    (fun h5 => .x p.edges k (h := by omega) fun e he ge => .c func241 (rN e.from_) fun _ => .v (num e.from_) (fun h6 => bad (by unfold eF; rw [any_eq_true.2 ⟨e, mem_of_getElem? he, by simp [h6]⟩]; simp)) (fun h6 => .y he fun _ => .c func241 (rN e.to_) fun _ => .v (num e.to_) (fun h7 => bad (by unfold eF; rw [any_eq_true.2 ⟨e, mem_of_getElem? he, by simp [h7]⟩]; simp)) (fun h7 =>
     .p k 1 (h := by unfold I64; omega) <| .n t (k + 1) [] (h1 := ⟨by omega, anyE_to he hk.2 (by simp [h6, h7])⟩))))
    (fun h5 => .rt true ⟨by have h9 := hk.2; rw [take_of_length_le aA] at h9; unfold eF; rw [h9, h0, h1, h2, h3, decide_eq_true (show p.edges.length ≤ 31 by omega)]; rfl, trivial⟩))))))) aB
theorem aP9 {d : Deed} {b3 b4 b5 : Bool} (h3 : decide (d.kind = 2) = b3) (h4 : (decide (d.kind = 3) || decide (d.kind = 4)) = b4) (h5 : (((!decide (d.kind = 2)) && (!decide (d.kind = 5))) && (!decide (d.kind = 8))) = b5) :
  mE d = ((((((b5 && (!(num d.run))) || ((!b5) && (!decide (d.run = 0)))) || (b4 && ((!(num d.task)) || (!(num d.try_))))) || ((!b4) && ((!decide (d.task = 0)) || (!decide (d.try_ = 0))))) || (b3 && ((!(num d.worker)) || (!(num d.draw))))) || ((!b3) && ((!decide (d.worker = 0)) || (!decide (d.draw = 0))))) := by
 unfold mE; rw [h5, h4, h3]
noncomputable def twoD {R : Bool → Prop} (b : Bool) (x y : Int) (bad : (b = true ∧ (num x = false ∨ num y = false) ∨ b = false ∧ (¬ x = 0 ∨ ¬ y = 0)) → D prog R) (k : (b = true → num x = true ∧ num y = true) → (b = false → x = 0 ∧ y = 0) → D prog R) : D prog R :=
 match b, bad, k with
 | true, bad, k => .c func241 (rN x) fun _ => .v (num x) (fun h => bad (.inl ⟨rfl, .inl h⟩)) (fun h => .c func241 (rN y) fun _ => .v (num y) (fun h2 => bad (.inl ⟨rfl, .inr h2⟩)) (fun h2 => k (fun _ => ⟨h, h2⟩) (fun z => by cases z)))
 | false, bad, k => .u (x = 0) (fun h => bad (.inr ⟨rfl, .inl h⟩)) (fun h => .u (y = 0) (fun h2 => bad (.inr ⟨rfl, .inr h2⟩)) (fun h2 => k (fun z => by cases z) (fun _ => ⟨h, h2⟩)))
noncomputable def oneD {R : Bool → Prop} (b : Bool) (x : Int) (bad : (b = true ∧ num x = false ∨ b = false ∧ ¬ x = 0) → D prog R) (k : (b = true → num x = true) → (b = false → x = 0) → D prog R) : D prog R :=
 match b, bad, k with
 | true, bad, k => .c func241 (rN x) fun _ => .v (num x) (fun h => bad (.inl ⟨rfl, h⟩)) (fun h => k (fun _ => h) (fun z => by cases z))
 | false, bad, k => .u (x = 0) (fun h => bad (.inr ⟨rfl, h⟩)) (fun h => k (fun z => by cases z) (fun _ => h))
theorem one_se {b : Bool} {x : Int} (h1 : b = true → num x = true) (h2 : b = false → x = 0) : (b && (!(num x)) || (!b) && (!decide (x = 0))) = false := by
 cases b with
 | true => simp [h1 rfl]
 | false => simp [h2 rfl]
theorem aB4 {b : Bool} {x y : Int} (h1 : b = true → num x = true ∧ num y = true) (h2 : b = false → x = 0 ∧ y = 0) : (b && ((!(num x)) || (!(num y)))) = false ∧ ((!b) && ((!decide (x = 0)) || (!decide (y = 0)))) = false := by
 cases b with
 | true => simp [h1 rfl]
 | false => simp [h2 rfl]
theorem one_bad {b : Bool} {x : Int} (h : b = true ∧ num x = false ∨ b = false ∧ ¬ x = 0) : (b && (!(num x)) || (!b) && (!decide (x = 0))) = true := by
 rcases h with ⟨rfl, h⟩ | ⟨rfl, h⟩ <;> simp [h]
theorem aN5 {b : Bool} {x y : Int} (h : b = true ∧ (num x = false ∨ num y = false) ∨ b = false ∧ (¬ x = 0 ∨ ¬ y = 0)) : (b && ((!(num x)) || (!(num y)))) = true ∨ ((!b) && ((!decide (x = 0)) || (!decide (y = 0)))) = true := by
 rcases h with ⟨rfl, h | h⟩ | ⟨rfl, h | h⟩ <;> simp [h]
noncomputable def dkD (d : Deed) (g : d.ok) (hi : 1 ≤ d.kind ∧ d.kind ≤ 8) (b3 b4 b5 : Bool) (h3 : decide (d.kind = 2) = b3) (h4 : (decide (d.kind = 3) || decide (d.kind = 4)) = b4) (h5 : (((!decide (d.kind = 2)) && (!decide (d.kind = 5))) && (!decide (d.kind = 8))) = b5) : D prog (fun b : Bool => b = aX d ∧ rgd [Rk.B b]) :=
 let bad : mE d = true → D prog (fun b : Bool => b = aX d ∧ rgd [Rk.B b]) := fun h => .rt false ⟨(deedS_f hi h).symm, trivial⟩
 oneD b5 d.run (fun h => bad (by rw [aP9 h3 h4 h5, one_bad h]; simp)) fun r1 r2 =>
 twoD b4 d.task d.try_ (fun h => bad (by rw [aP9 h3 h4 h5]; rcases aN5 h with e | e <;> rw [e] <;> simp)) fun t1 t2 =>
 twoD b3 d.worker d.draw (fun h => bad (by rw [aP9 h3 h4 h5]; rcases aN5 h with e | e <;> rw [e] <;> simp)) fun w1 w2 =>
 let he : mE d = false := (by rw [aP9 h3 h4 h5, one_se r1 r2, (aB4 t1 t2).1, (aB4 t1 t2).2, (aB4 w1 w2).1, (aB4 w1 w2).2]; rfl)
 .s (d.kind = 1)
  (fun h => .c func323 (PlanNum_s d.plan) (hg := ⟨g.2.2.1, trivial⟩) fun _ => .rt (eF d.plan) ⟨(deedS_1 hi he h).symm, trivial⟩)
  (fun h => .c func324 (NoPlan_s d.plan) (hg := ⟨g.2.2.1, trivial⟩) fun _ => .rt (gA d.plan) ⟨(deedS_n hi he h).symm, trivial⟩)
theorem kind_8 {d : Deed} (h : 1 ≤ d.kind ∧ d.kind ≤ 8) : d.kind = 1 ∨ d.kind = 2 ∨ d.kind = 3 ∨ d.kind = 4 ∨ d.kind = 5 ∨ d.kind = 6 ∨ d.kind = 7 ∨ d.kind = 8 := by omega
theorem DeedOk_s (d : Deed) : Ct1 prog 217 [.S d] [.B (aX d)] :=
 .one (aX d) (rk := fun b => [.B b]) <| vc func217 (fun (hg : gin [Par.S d]) => let g : d.ok := hg.1.1
  .c func138 (InV d.kind 1 8) fun _ => .v (inB d.kind 1 8) (fun h1 => .rt false ⟨dok_a h1, trivial⟩) (fun h1 => let hi := inB_iff.1 h1
   (fun hk => .oc hk (fun h => .wt 3 <| .rv 3 (.bool false) (y := .bool (decide (d.kind = 2))) (by rw [h]; rfl) <| .kf (d.kind = 3) aA <| .wt 4 <| .rv 4 (.bool false) (y := .bool (decide (d.kind = 4))) (by rw [h]; rfl) <| .ut (d.kind = 5) aA <| .wt 5 <| .rv 5 (.bool true) (y := .bool (!decide (d.kind = 8))) (by rw [h]; rfl) <| dkD d g hi false false true (by rw [h]; rfl) (by rw [h]; rfl) (by rw [h]; rfl)) (fun hk => .oc hk (fun h => .wt 3 <| .rv 3 (.bool true) (y := .bool (decide (d.kind = 2))) (by rw [h]; rfl) <| .kf (d.kind = 3) aA <| .wt 4 <| .rv 4 (.bool false) (y := .bool (decide (d.kind = 4))) (by rw [h]; rfl) <| dkD d g hi true false false (by rw [h]; rfl) (by rw [h]; rfl) (by rw [h]; rfl)) (fun hk => .oc hk (fun h => .wt 3 <| .rv 3 (.bool false) (y := .bool (decide (d.kind = 2))) (by rw [h]; rfl) <| .kt (d.kind = 3) h <| .ut (d.kind = 5) aA <| .wt 5 <| .rv 5 (.bool true) (y := .bool (!decide (d.kind = 8))) (by rw [h]; rfl) <| dkD d g hi false true true (by rw [h]; rfl) (by rw [h]; rfl) (by rw [h]; rfl)) (fun hk => .oc hk (fun h => .wt 3 <| .rv 3 (.bool false) (y := .bool (decide (d.kind = 2))) (by rw [h]; rfl) <| .kf (d.kind = 3) aA <| .wt 4 <| .rv 4 (.bool true) (y := .bool (decide (d.kind = 4))) (by rw [h]; rfl) <| .ut (d.kind = 5) aA <| .wt 5 <| .rv 5 (.bool true) (y := .bool (!decide (d.kind = 8))) (by rw [h]; rfl) <| dkD d g hi false true true (by rw [h]; rfl) (by rw [h]; rfl) (by rw [h]; rfl)) (fun hk => .oc hk (fun h => .wt 3 <| .rv 3 (.bool false) (y := .bool (decide (d.kind = 2))) (by rw [h]; rfl) <| .kf (d.kind = 3) aA <| .wt 4 <| .rv 4 (.bool false) (y := .bool (decide (d.kind = 4))) (by rw [h]; rfl) <| .uf (d.kind = 5) h <| dkD d g hi false false false (by rw [h]; rfl) (by rw [h]; rfl) (by rw [h]; rfl)) (fun hk => .oc hk (fun h => .wt 3 <| .rv 3 (.bool false) (y := .bool (decide (d.kind = 2))) (by rw [h]; rfl) <| .kf (d.kind = 3) aA <| .wt 4 <| .rv 4 (.bool false) (y := .bool (decide (d.kind = 4))) (by rw [h]; rfl) <| .ut (d.kind = 5) aA <| .wt 5 <| .rv 5 (.bool true) (y := .bool (!decide (d.kind = 8))) (by rw [h]; rfl) <| dkD d g hi false false true (by rw [h]; rfl) (by rw [h]; rfl) (by rw [h]; rfl)) (fun hk => .oc hk (fun h => .wt 3 <| .rv 3 (.bool false) (y := .bool (decide (d.kind = 2))) (by rw [h]; rfl) <| .kf (d.kind = 3) aA <| .wt 4 <| .rv 4 (.bool false) (y := .bool (decide (d.kind = 4))) (by rw [h]; rfl) <| .ut (d.kind = 5) aA <| .wt 5 <| .rv 5 (.bool true) (y := .bool (!decide (d.kind = 8))) (by rw [h]; rfl) <| dkD d g hi false false true (by rw [h]; rfl) (by rw [h]; rfl) (by rw [h]; rfl)) (fun h => .wt 3 <| .rv 3 (.bool false) (y := .bool (decide (d.kind = 2))) (by rw [h]; rfl) <| .kf (d.kind = 3) aA <| .wt 4 <| .rv 4 (.bool false) (y := .bool (decide (d.kind = 4))) (by rw [h]; rfl) <| .ut (d.kind = 5) aA <| .wt 5 <| .rv 5 (.bool false) (y := .bool (!decide (d.kind = 8))) (by rw [h]; rfl) <| dkD d g hi false false false (by rw [h]; rfl) (by rw [h]; rfl) (by rw [h]; rfl))))))))) (kind_8 hi))) aB
noncomputable def aY0 (y : Yard) (id : Int) (p : Plan) : Yard := ⟨y.now, y.seq + ((aK (bC id p).tasks 2).length : Int), eU (aO id).toNat p.prio id (aK (bC id p).tasks 2) y.shelf y.seq, y.runs ++ [bC id p]⟩
noncomputable def aS (y : Yard) (id : Int) (p : Plan) : Yard × Int :=
 if aI y = false then (y, 8) else if inB id 1 9999 = false then (y, 5) else if 0 ≤ aD y id then (y, 6) else if aG p ≠ 0 then (y, aG p) else if fR y p = false then (y, 7) else (aY0 y id p, 0)


theorem fresh_zero (r : Run) : dD zRun r = aK r.tasks 2 := by
 unfold dD; rw [filter_eq_self]; intro a _; simp [zRun, aK, cT]

def flE (id : Int) (l : List Entry) : List Entry := l.filter (fun e => !decide (e.run = id))
theorem flE_t {id : Int} {l : List Entry} {k : Nat} {e : Entry} (he : l[k]? = some e) (h : ¬ e.run = id) : flE id (l.take (k + 1)) = flE id (l.take k) ++ [e] := by
 obtain ⟨hk, rfl⟩ := gsi_.1 he
 unfold flE; rw [take_succ_eq_append_getElem hk, filter_append]; simp [h]
theorem flE_f {id : Int} {l : List Entry} {k : Nat} {e : Entry} (he : l[k]? = some e) (h : e.run = id) : flE id (l.take (k + 1)) = flE id (l.take k) := by
 obtain ⟨hk, rfl⟩ := gsi_.1 he
 unfold flE; rw [take_succ_eq_append_getElem hk, filter_append]; simp [h]
theorem aD7 (id : Int) (l : List Entry) : (flE id l).length ≤ l.length := length_filter_le _ _
def lW (id : Int) (xss : List (List Entry)) (i : Nat) : List (List Entry) := (xss.take i).map (flE id) ++ xss.drop i
theorem sG (id : Int) (xss : List (List Entry)) : lW id xss 0 = xss := by simp [lW]
theorem aJ9 (id : Int) (xss : List (List Entry)) (i : Nat) : (lW id xss i).length = xss.length := by simp [lW]; omega
theorem aD8 {id : Int} {xss : List (List Entry)} {i : Nat} {l : List Entry} (h : xss[i]? = some l) : (lW id xss i)[i]? = some l := by
 have hl := (gsi_.1 h).1
 unfold lW
 rw [getElem?_append_right (by simp; omega)]
 simp only [length_map, length_take, getElem?_drop]
 rw [← h]; congr 1; omega
theorem wQ {id : Int} {xss : List (List Entry)} {i : Nat} {l : List Entry} (h : xss[i]? = some l) : (lW id xss i).set i (flE id l) = lW id xss (i + 1) := by
 obtain ⟨hl, rfl⟩ := gsi_.1 h
 unfold lW
 have e1 : ((xss.take i).map (flE id)).length = i := by simp; omega
 rw [set_append_right _ _ aA, e1, Nat.sub_self, take_succ_eq_append_getElem hl, map_append, append_assoc]
 congr 1
 exact (congrArg (fun z => z.set 0 (flE id xss[i])) (drop_eq_getElem_cons hl)).trans rfl
theorem wR {id : Int} {xss : List (List Entry)} {i : Nat} (h : i = xss.length) : lW id xss i = xss.map (flE id) := by subst h; simp [lW]
def wP (y : Yard) (id : Int) (k : Nat) : Yard := ⟨y.now, y.seq, y.shelf.map (flE id), y.runs.eraseIdx k⟩
noncomputable def aR (y : Yard) (id : Int) : Yard × Int :=
 if aI y = false then (y, 8) else match y.runs[(aD y id).toNat]? with
  | some r => if aD y id < 0 then (y, 10) else if r.state = 1 then (y, 13) else (wP y id (aD y id).toNat, 0)
  | none => (y, 10)
theorem qY {y : Yard} {id : Int} (h0 : aI y = true) (h : aD y id < 0) : aR y id = (y, 10) := by
 unfold aR
 rw [if_neg (by rw [h0]; decide)]
 cases y.runs[(aD y id).toNat]? with
 | none => rfl
 | some r => simp only; rw [if_pos h]
theorem gP {y : Yard} {id : Int} {r : Run} (h0 : aI y = true) (h : ¬ aD y id < 0) (hr : y.runs[(aD y id).toNat]? = some r) : aR y id = if r.state = 1 then (y, 13) else (wP y id (aD y id).toNat, 0) := by
 unfold aR
 rw [if_neg (by rw [h0]; decide), hr]
 simp only
 rw [if_neg h]
section
variable {P : Program} {n : Nat} {f : Nat → Value} {w0 W : World} {rs : List Res} {Q : Exit → Act → World → Prop} {d : Option Tmp} {ty : TypeId} {pos : String} {af : Array Go.Edge} {g : Option (Nat × Bool)} {K : Value → World → Prop} {α : Type} [Shape α]
theorem iE {t e e' : TypeId} {bytes : Nat} {s x : Operand} {v : Value} {xs ys : List α} {fe fy : List Nat} {ad : Addr} {c m b o : Nat} {C cells : List Value} (hT : ApOk P t e α bytes) (hs : ev n f s = v) (hx : ev n f x = .slice (some ad) m c) (hm : ys.length = m) (had : 0 < m → ad = ⟨b, o, none⟩) (hcl : cells = (C.drop o).take (m * Shape.size α))
  (hst : St w0 W (Res.row e v xs fe :: Res.es cells ys fy :: Res.bx b C e' :: rs)) (h63 : xs.length + m ≤ maxLen) (hby : (xs.length + m) * bytes ≤ 140737488355328)
  (k : ∀ v' W', St w0 W' (Res.row e v' (xs ++ ys) (fe ++ fy) :: Res.bx b C e' :: rs) → K v' W') :
  Stp P n ⟨d, .call { callee := .builtin .append, args := #[s, x], argTypes := #[t, t] }, ty, pos, af, g⟩ f W Q K := by
 have hE := hst.get 1 rfl
 have hB : W.heap[b]? = some (.cells C.toArray e' (0, 0)) := hst.get 2 rfl
 have hn := hst.nodup
 have h2 := hst.f1
 have hn2 := h2.nodup
 rw [flatMap_cons, nodup_append] at hn2
 refine jW hT hs hx hm hst.d1 hE.1 ?_ hE.2 hn2.1 ?_ h63 hby k
 ·intro j u hj
  have hj2 := (gsi_.1 hj).1
  rw [hE.1.len, hm] at hj2
  have hm0 : 0 < m := Nat.pos_of_ne_zero (fun h0 => by rw [h0] at hj2; simp at hj2)
  rw [had hm0, Addr.add_mid]
  rw [hcl] at hj
  have := aT hB (o + j) u (vZ hj)
  simpa using this
 intro a ha
 refine ⟨fun h => hn2.2.2 a ha a ?_ rfl, fun h => hn2.2.2 a ha a ?_ rfl, h2.fresh (Res.es cells ys fy) (by simp) a ha⟩
 ·rw [flatMap_cons]; exact mem_append_left _ h
 rw [flatMap_cons]; exact mem_append_right _ h
theorem aT7 {C : List Value} {o N k s : Nat} (h : k ≤ N) : ((C.drop o).take (N * s)).drop (k * s) = (C.drop (o + k * s)).take ((N - k) * s) := by
 rw [drop_take, drop_drop, Nat.sub_mul]
theorem St.es_split {w0 W : World} {rs : List Res} {cells : List Value} {xs : List α} {fe : List Nat} (h : St w0 W (Res.es cells xs fe :: rs)) {k : Nat} (hk : k < xs.length) :
  ∃ f1 f3, St w0 W (Res.es (cells.take (k * Shape.size α)) (xs.take k) f1 :: Res.es (cells.drop ((k + 1) * Shape.size α)) (xs.drop (k + 1)) f3 :: rs) := by
 have hh := h.get 0 rfl
 obtain ⟨f1, g, rfl, h1, h2⟩ := hh.1.parts' k aA
 obtain ⟨f2, f3, rfl, h3, h4⟩ := h2.parts' 1 (by rw [length_drop]; omega)
 rw [drop_drop, drop_drop, show k * Shape.size α + 1 * Shape.size α = (k + 1) * Shape.size α by rw [Nat.add_mul]] at h4
 refine ⟨f1, f3, St.trade (rs1 := [Res.es cells xs (f1 ++ (f2 ++ f3))]) (rs2 := [Res.es (cells.take (k * Shape.size α)) (xs.take k) f1, Res.es (cells.drop ((k + 1) * Shape.size α)) (xs.drop (k + 1)) f3]) h ?_ ?_ ?_⟩
 ·have := h.nodup
  rw [flatMap_cons, nodup_append] at this
  have h5 : (f1 ++ (f2 ++ f3)).Nodup := this.1
  have h6 : (f1 ++ f3).Sublist (f1 ++ (f2 ++ f3)) := (List.Sublist.refl _).append (sublist_append_right _ _)
  simpa [Res.es] using h6.nodup h5
 ·intro c hc; simp [Res.es] at hc ⊢; rcases hc with hc | hc <;> simp [hc]
 intro r hr
 rcases mem_cons.1 hr with rfl | hr
 ·exact ⟨h1, fun c hc => hh.2 c (by simp [hc])⟩
 rw [mem_singleton] at hr; subst hr
 exact ⟨h4, fun c hc => hh.2 c (by simp [hc])⟩
end

theorem ForgetS {y : Yard} (hc : Shape.C w cs y fp) (id : Int) (hid : I64 id) (hw : y.wt ≤ 1048576) :
  Calls prog 225 #[.agg cs.toArray, I id] w fun e w' => ∃ (cs' : List Value) (fp' : List Nat), e = .returned (.tuple #[.agg cs'.toArray, I (aR y id).2]) ∧ St w w' [Res.own (.agg cs'.toArray) (aR y id).1 fp'] := by
 have hyok : y.ok := by obtain ⟨v0, v1, g0, g1, rfl, hok, h0, h1, rfl⟩ := hc; exact hok
 have hy1 : I64 y.now := hyok.1
 have hysl : y.shelf.length ≤ y.wt := by unfold Yard.wt wtL; omega
 refine bC3 func225 rfl ntmps225 dE (wp_seq (aC (sg (iP (cs := cs) rfl (St.start w) ?_)))); intro b1 W2 hb3 st4
 refine sg (gB pQ st4 ?_); intro b6 W7 hb8 st9
 refine sg (dB (aF (wp_seq (aC (sg (dV dP rfl rfl (st9.get 1 rfl) (Shape.len hc) (sg (nE func184 rfl rfl ((CopyYardT W7 (gS hc st9.below) aA).mono ?_))))))))); rintro _ W17 ⟨cs15, fp15, rfl, hk18⟩; refine ⟨_, rfl, ?_⟩
 have st19 := St.call st9 hk18
 refine sg (gB pQ st19 ?_); intro b21 W22 hb23 st24
 refine sgn (eR (cs := cs15) dP (gL (st24.get 1 rfl) rfl) rfl rfl st24 rfl ?_); intro W26 st27
 refine aF (wp_seq (aC (rc st27 4 Ag.nil.put.put.put.put.put.put.put.put [] [(7, I (aD y id))] [qw 3 rfl (Shape.len hc), qc func291 rfl (fun W s b => RunAtS W (gS hc s.below) id aA)] aB fun f29 W30 h29_ st31 hb32 => (aF (wp_seq (wp_block (wp_seq (aC (rc st31 4 h29_ [] [(16, .bool (!(aI y)))] [qw 3 rfl (Shape.len hc), qc func185 rfl (fun W s b => YardOkT W (gS hc s.below) aA), .o] aB fun f34 W35 h34_ st36 hb37 => (aF (oG (h34_.at 16) (fun h38 => ?_) (fun h38 => ?_))))))))))))
 ·refine wp_seq (aC (sg (dV dP rfl (h34_.at 6) (st36.get 0 rfl) (Shape.len (gL (st36.get 1 rfl) rfl)) (sgn (eR (cs := cs15) dP (gL (st36.f2.get 2 rfl) rfl) (h34_.at 4) rfl st36.f2 rfl ?_))))); intro W42 st43
  refine sg (dB (aF (wr (aG7 dP rfl results225 (h34_.at 4) (st43.get 0 rfl) (Shape.len (gL (st43.get 2 rfl) rfl)) rfl ?_))))
  have hfe : aR y id = (y, 8) := by unfold aR; rw [if_pos (aM7 h38)]
  rw [hfe]
  exact ⟨_, _, rfl, st43.f2.d1.d1.d1⟩
 refine wp_seq (aC (rn st36 3 h34_ [] [(21, .bool (decide ((aD y id) < 0)))] [.o] aB fun f51 h51_ => (aF (fX (h51_.at 21) (fun h52p => ?_) (fun h52p => ?_)))))
 ·refine wp_seq (aC (sg (dV dP rfl (h51_.at 6) (st36.get 0 rfl) (Shape.len (gL (st36.get 1 rfl) rfl)) (sgn (eR (cs := cs15) dP (gL (st36.f2.get 2 rfl) rfl) (h51_.at 4) rfl st36.f2 rfl ?_))))); intro W56 st57
  refine sg (dB (aF (wr (aG7 dP rfl results225 (h51_.at 4) (st57.get 0 rfl) (Shape.len (gL (st57.get 2 rfl) rfl)) rfl ?_))))
  have hfe : aR y id = (y, 10) := qY (xG h38) h52p
  rw [hfe]
  exact ⟨_, _, rfl, st57.f2.d1.d1.d1⟩
 refine wp_seq ?_
 have hY := fW (xG h38)
 have hra := h52p
 obtain ⟨r, hr⟩ := qN hra
 have hrk : (aD y id).toNat < y.runs.length := (gsi_.1 hr).1
 have hr8 := hY.runs
 have hs4 := hY.shelf
 have hk8 : aD y id = (((aD y id).toNat : Nat) : Int) := by omega
 refine aC ?_
 have hk65 := hc
 obtain ⟨v65_0, v65_1, g65_0, g65_1, rfl, hok65, h65_0, h65_1, rfl⟩ := hk65
 have hi9ceb2 : (aD y id).toNat < y.runs.length := (gsi_.1 hr).1
 obtain ⟨b66, o66, cs66, f66, hp66, hr66, hc66, hm66⟩ := idxq h65_1 (i := (aD y id).toNat) hr
 have hk67 := hc66
 obtain ⟨v67_0, v67_1, g67_0, g67_1, rfl, hok67, h67_0, h67_1, rfl⟩ := hk67
 refine rn st36 8 h51_ [] [(25, .bool (decide (r.state = 1)))] [qb 3 rfl 3, qxe hp66 (e := aD y id) aA, qr hr66 6, .o] aB fun f68 h68_ => (aF (fX (h68_.at 25) (fun h69p => ?_) (fun h69p => ?_)))
 ·refine wp_seq (aC (sg (dV dP rfl (h68_.at 6) (st36.get 0 rfl) (Shape.len (gL (st36.get 1 rfl) rfl)) (sgn (eR (cs := cs15) dP (gL (st36.f2.get 2 rfl) rfl) (h68_.at 4) rfl st36.f2 rfl ?_))))); intro W73 st74
  refine sg (dB (aF (wr (aG7 dP rfl results225 (h68_.at 4) (st74.get 0 rfl) (Shape.len (gL (st74.get 2 rfl) rfl)) rfl ?_))))
  have hfe : aR y id = (y, 13) := by rw [gP (xG h38) hra hr, if_pos aA]
  rw [hfe]
  exact ⟨_, _, rfl, st74.f2.d1.d1.d1⟩
 refine wp_skip (wp_seq ?_)
 obtain ⟨v82_0, v82_1, g82_0, g82_1, he82, hok82, st83⟩ := open_Yard st36.f1
 subst he82
 have hq_ := St.ownOpen' st83.f1 dE aA
 obtain ⟨bD, oD, cD, CD, eD, feD, hvD, hcD, hmD, hlD, st87⟩ := hq_
 obtain ⟨fE0, fE1, st88⟩ := st87.f1.es_split hrk
 subst hvD
 rcases nem ((aD y id).toNat + 1 < cD) with h139p | h139p
 ·refine kJ 11 [(none, some 5, .is (Res.es (((CD.drop oD).take (y.runs.length * 8)).take ((aD y id).toNat * 8)) (y.runs.take (aD y id).toNat) fE0)), (some 0, some 5, .of (ι := Nat) [34] (fun b170 => [(.slice (some ⟨b170, 0, none⟩) 0 0)]) (fun b170 => Res.row (α := Run) 55 (.slice (some ⟨b170, 0, none⟩) 0 0) [] [])), (some 5, none, .of (ι := Value) [39] (fun v179 => [v179]) (fun v179 => Res.row (α := Run) 55 v179 ([] ++ (y.runs.take (aD y id).toNat)) ([] ++ fE0)))] [(false, .ex (fun (b170 : Nat) => (.slice (some ⟨b170, 0, none⟩) 0 0))), (true, .is (.pointer (some ⟨b21, 0 + 3, none⟩))), (true, .is (.slice (some ⟨bD, oD, none⟩) y.runs.length cD)), (true, .is (I (aD y id))), (true, .is (.slice (some ⟨bD, oD, none⟩) (aD y id).toNat cD)), (false, .ex (fun (v179 : Value) => v179)), (true, .is (.pointer (some ⟨b21, 0 + 3, none⟩))), (true, .is (.slice (some ⟨bD, oD, none⟩) y.runs.length cD)), (true, .is (I (aD y id))), (true, .is (I ((aD y id) + 1))), (true, .is (.slice (some ⟨bD, oD, none⟩) 0 0))] mix aB aB aB aB (rs0 := [Res.es (((CD.drop oD).take (y.runs.length * 8)).take ((aD y id).toNat * 8)) (y.runs.take (aD y id).toNat) fE0]) ⟨_, _, rfl, rfl, rfl⟩ st88 st88.below ⟨?_, (fq_ jP (h68_.at 6)), (fun f W hst hbl hd hf => dW uE rfl (hd 1 35 rfl rfl) (hst.get 3 rfl) (i := 3) rfl rfl brq), (mq_ (h68_.at 7)), (fun f W hst hbl hd hf => rW (h := (aD y id).toNat) fJ (hd 2 36 rfl rfl) (hd 3 37 rfl rfl) aA aA aA brq), ?_, (fq_ jP (h68_.at 6)), (fun f W hst hbl hd hf => dW uE rfl (hd 6 40 rfl rfl) (hst.get 3 rfl) (i := 3) rfl rfl brq), (mq_ (h68_.at 7)), (fun f W hst hbl hd hf => jI (hd 8 42 rfl rfl) rfl aM2 brq), (fun f W hst hbl hd hf => aY1 (l := (aD y id).toNat + 1) fJ (hd 7 41 rfl rfl) (hd 9 43 rfl rfl) aA aA aA brq), trivial⟩ ?_
  ·intro f W ru oth hu hst hbl hd hf
   have hn_ : ru = [] := hu
   subst hn_
   try simp only [cap_, sB] at hst
   refine (bR (cs := []) (e := 55) xX (eQ nV _) hst ?_); intro b170 W171 hb172 st173
   have st173 := st173.row_empty (α := Run)
   exact ⟨⟨b170, rfl⟩, ⟨_, ⟨_, _, rfl, ⟨b170, (ce rfl rfl), rfl⟩, rfl⟩, st173⟩, st173.below⟩
  ·intro f W ru oth hu hst hbl hd hf
   obtain ⟨_, _, rfl, rfl, _, _, rfl, ⟨b170, he175, rfl⟩, hn_⟩ := hu
   have hn_ : _ = [] := hn_
   subst hn_
   have hu175_34 : f 34 = (.slice (some ⟨b170, 0, none⟩) 0 0) := congrArg (fun l => l.getD 0 undef) he175
   try simp only [cap_, sB] at hst
   have st176 := hst.f3
   refine (iE (α := Run) (m := (aD y id).toNat) (o := oD) nV hu175_34 (hd 4 38 rfl rfl) (by rw [length_take]; omega) (fun _ => rfl) (by rw [take_take]; congr 1; have hz : (aD y id).toNat * 8 ≤ y.runs.length * 8 := Nat.mul_le_mul_right _ aA; exact (Nat.min_eq_left hz).symm ▸ rfl) st176.f1.f2 (by simp only [length_append, length_take, length_nil]; unfold maxLen; omega) (by simp only [length_append, length_take, length_nil]; omega) ?_); intro v179 W180 st181
   exact ⟨⟨v179, rfl⟩, ⟨_, ⟨_, _, rfl, ⟨v179, (ce rfl rfl), rfl⟩, rfl⟩, st181.f6.f6.f6.f6.f5.f6.f6⟩, st181.f6.f6.f6.f6.f5.f6.f6.below⟩
  intro f189 W190 rs_ hAL_ st193 hbl194 hv191 hf192
  obtain ⟨_, _, rfl, ⟨v179, he195, rfl⟩, hn_⟩ := hAL_
  have hn_ : _ = [] := hn_
  subst hn_
  have hu195_39 : f189 39 = v179 := congrArg (fun l => l.getD 0 undef) he195
  try simp only [cap_, sB] at st193
  have st197 := st193.f2
  refine sg (iE (α := Run) (m := y.runs.length - ((aD y id).toNat + 1)) (o := oD + ((aD y id).toNat + 1) * 8) nV hu195_39 (Eq.trans (hv191 10 44 dE rfl) (by rw [show y.runs.length - ((aD y id).toNat + 1) = 0 by omega])) (by rw [length_drop]) (fun hz => by omega) (aT7 aA) st197.f2.f2 (by simp only [length_append, length_take, length_nil]; unfold maxLen; omega) (by simp only [length_append, length_take, length_nil]; omega) ?_); intro v200 W201 st202
  refine sg (dG jP ((hf192 6 rfl).trans (h68_.at 6)) (sgn (iC (v := v200) aB rfl rfl (Sl.cells (eG (st202.f3.get 1 rfl))) (Sl.one (eG (st202.f3.get 1 rfl))) st202.f3 xY rfl ?_))); intro W206 st207
  refine aF (wp_seq (wp_seq (aC (sg (dB (aF (wp_block (iB (fun (m : Nat) (f : Nat → Value) (W : World) => ∃ (i : Nat) (fo210 : List Nat), i ≤ y.shelf.length ∧ m = y.shelf.length - i ∧ Ag [(1, I id), (4, pt_ b6), (6, pt_ b21), (8, I (i : Int))] f ∧ St w W ([Res.bx b21 [I y.now, I y.seq, v82_0, v200] 27, Res.row (α := Run) 55 v200 (([] ++ (y.runs.take (aD y id).toNat)) ++ (y.runs.drop ((aD y id).toNat + 1))) (([] ++ fE0) ++ fE1), Res.bx bD CD eD, Res.own (α := List (List Entry)) v82_0 (lW id y.shelf i) fo210, Res.bx b6 [I 0, I 0, .slice none 0 0, .slice none 0 0] 27, Res.bx b1 [I y.now, I y.seq, v65_0, v65_1] 27])) (y.shelf.length - 0) ?_ ?_))))))))
  ·exact ⟨0, g82_0, Nat.zero_le _, rfl, (Ag.cons ((hf192 1 rfl).trans (h68_.at 1)) (Ag.cons ((hf192 4 rfl).trans (h68_.at 4)) (Ag.cons ((hf192 6 rfl).trans (h68_.at 6)) (Ag.cons rfl Ag.nil)))), (by rw [sG]; exact st207)⟩
  intro m211 f212 W213 hJ214
  obtain ⟨i, fo210, hil, rfl, hA216, st215⟩ := hJ214
  have hfl := aJ9 id y.shelf i
  refine wp_seq (wp_seq (aC (rn st215 5 hA216 [] [(51, .bool (decide ((i : Int) < ((lW id y.shelf i).length : Int))))] [qb 0 rfl 2, ql (bV (st215.get 3 rfl)), .o] aB fun f218 h218_ => (aF (fX (h218_.at 51) (fun h219p => ?_) (fun h219p => ?_))))))
  ·refine wp_skip (wp_seq (wp_block (wp_seq ?_)))
   have hq_ := tY (xs := y.shelf) (i := i) aA
   obtain ⟨l, hl⟩ := hq_
   have hla := aD8 (id := id) hl
   have hl80 := kK (hY.each l (mem_of_getElem? hl))
   have hq_ := St.lendx (α := List Entry) dE st215.f3 (x := l) hla
   obtain ⟨b221, e221, pre221, cs221, post221, fi221, fr221, hPA221, hC221, st222⟩ := hq_
   have hq_ := st222.f1.uncs1
   obtain ⟨v221, he221, st227⟩ := hq_; subst he221
   refine aC (sg (bR (cs := []) (e := 243) xX (eQ fL _) st227 ?_)); intro b228 W229 hb230 st231
   have st231 := st231.row_empty (α := Entry)
   refine sg (aW (v := (.slice (some ⟨b228, 0, none⟩) 0 0)) rfl (aF (wp_seq (wp_seq (aC (sg (dB (aF (wp_block (iB (fun (m : Nat) (f : Nat → Value) (W : World) => ∃ (j : Nat) (v237 : Value), j ≤ l.length ∧ m = l.length - j ∧ Ag [(1, I id), (4, pt_ b6), (6, pt_ b21), (8, I (i : Int)), (9, v237), (10, I (j : Int))] f ∧ St w W ([Res.row (α := Entry) 243 v237 (flE id (l.take j)) [], Res.own (α := List Entry) v221 l fi221, Res.bx b221 (pre221 ++ [v221] ++ post221) e221, Res.rest (α := (List Entry)) v82_0 b221 pre221 post221 (lW id y.shelf i) i fr221, Res.bx b21 [I y.now, I y.seq, v82_0, v200] 27, Res.row (α := Run) 55 v200 (([] ++ (y.runs.take (aD y id).toNat)) ++ (y.runs.drop ((aD y id).toNat + 1))) (([] ++ fE0) ++ fE1), Res.bx bD CD eD, Res.bx b6 [I 0, I 0, .slice none 0 0, .slice none 0 0] 27, Res.bx b1 [I y.now, I y.seq, v65_0, v65_1] 27])) (l.length - 0) ?_ ?_))))))))))
   ·exact ⟨0, (.slice (some ⟨b228, 0, none⟩) 0 0), Nat.zero_le _, rfl, (h218_.put.put.put.to aB), st231⟩
   intro m238 f239 W240 hJ241
   obtain ⟨j, v237, hjl, rfl, hA243, st242⟩ := hJ241
   have hfn := aD7 id (l.take j)
   have htl := length_take_le j l
   refine wp_seq (wp_seq (aC (rn st242 8 hA243 [] [(62, .bool (decide ((j : Int) < (l.length : Int))))] [qb 4 rfl 2, qx hPA221, qp 2 rfl 0, ql (bV (st242.get 1 rfl)), .o] aB fun f245 h245_ => (aF (fX (h245_.at 62) (fun h246p => ?_) (fun h246p => ?_))))))
   ·refine wp_skip (wp_seq (wp_block (wp_seq ?_)))
    have hq_ := tY (xs := l) (i := j) aA
    obtain ⟨e, he⟩ := hq_
    refine aC ?_
    have hi1fd33 : j < l.length := (gsi_.1 he).1
    obtain ⟨b248, o248, cs248, f248, hp248, hr248, hc248, hm248⟩ := idxq (bV (st242.get 1 rfl)) (i := j) he
    have hk249 := hc248
    obtain ⟨he249, rfl, hok249⟩ := hk249
    have he249 : _ = [I e.prio, I e.seq, I e.run, I e.task] := he249
    subst he249
    refine rn st242 11 h245_ [] [(75, .bool (!decide (e.run = id)))] [qb 4 rfl 2, qx hPA221, qp 2 rfl 0, qx hp248, qn hr248 2, .o] aB fun f250 h250_ => (aF (aX7 (h250_.at 75) (fun h251p => ?_) (fun h251p => ?_)))
    ·refine aC (rn st242 9 h250_ [] [(76, v237), (84, .agg #[I e.prio, I e.seq, I e.run, I e.task])] [qb 4 rfl 2, qx hPA221, qp 2 rfl 0, qx hp248, qn hr248 0] aB fun f253 h253_ => ?_)
     have hoke : e.ok := (hc248).2.2
     refine sg (bR (cs := [I e.prio, I e.seq, I e.run, I e.task]) (e := 243) (yX (h253_.at 84) xX) (iY fL _ _ rfl rfl dE) st242 ?_); intro b254 W255 hb256 st257
     refine sg (iF (ys := [(⟨e.prio, e.seq, e.run, e.task⟩ : Entry)]) fL (h253_.at 76) rfl rfl st257.f1 (Elems.one1 (show Shape.C _ [I e.prio, I e.seq, I e.run, I e.task] e [] from ⟨rfl, rfl, hoke⟩)) (by unfold maxLen; omega) aA ?_); intro v260 W261 st262
     refine sg (aW (v := v260) rfl (aF (aC (rn st262 3 h253_.put.put.put [10] [(10, I ((j : Int) + 1))] [qad (j : Int) 1] aB fun f266 h266_ => (aF ?_)))))
     exact ⟨_, l.length - (j + 1), aA, rfl, j + 1, v260, aA, rfl, (h266_.to aB), (by rw [flE_t he aA]; exact st262)⟩
    refine wp_skip (aC (rn st242 3 h250_ [10] [(10, I ((j : Int) + 1))] [qad (j : Int) 1] aB fun f268 h268_ => (aF ?_)))
    exact ⟨_, l.length - (j + 1), aA, rfl, j + 1, v237, aA, rfl, (h268_.to aB), (by rw [flE_f he aA]; exact st242)⟩
   refine wp_exit ?_
   have hje : j = l.length := by omega
   rw [hje, take_length] at st242
   obtain ⟨fp269, st270⟩ := st242.shut
   refine aC (rn st270 5 h245_ [] [(90, v237), (91, .pointer (some ⟨b221, pre221.length, none⟩))] [qb 4 rfl 2, qx hPA221] aB fun f272 h272_ => (sgn (jG (i := 0) (v := v237) aB (h272_.at 91) (h272_.at 90) (Sl.cells (bV (st270.f2.get 1 rfl))) (Sl.one (bV (st270.f2.get 1 rfl))) st270.f2 rfl xY rfl ?_))); intro W274 st275
   refine aF (aC (rn st275 3 h272_ [8] [(8, I ((i : Int) + 1))] [qad (i : Int) 1] aB fun f277 h277_ => (aF ?_)))
   have st279 := st275.f1.cs1
   obtain ⟨fp283, st284⟩ := St.give (α := List Entry) st279.f3.f1.f2
   exact ⟨_, y.shelf.length - (i + 1), aA, rfl, i + 1, fp283, aA, rfl, (h277_.to aB), (by rw [← wQ hl]; exact st284.f6.f6.f2.f6.f6.f6.d6)⟩
  refine wp_exit (wp_seq (aC (sg (jH (cs := [I y.now, I y.seq, v82_0, v200]) dP rfl (h218_.at 6) (st215.get 0 rfl) rfl rfl (sgn (eA aB (h218_.at 4) rfl (cA rfl (cA rfl (cA (Sl.one (bV (st215.f4.get 4 rfl))) (cA (Sl.one (eG (st215.f4.get 2 rfl))) qU)))) st215.f4 xY rfl ?_)))))); intro W295 st296
  refine sg (dB (aF (wr (aG7 dP rfl results225 (h218_.at 4) (st296.get 0 rfl) rfl rfl ?_))))
  have hie : i = y.shelf.length := by omega
  rw [wR hie] at st296
  have hera : ([] ++ (y.runs.take (aD y id).toNat)) ++ (y.runs.drop ((aD y id).toNat + 1)) = y.runs.eraseIdx (aD y id).toNat := by rw [nil_append, eraseIdx_eq_take_drop_succ]
  rw [hera] at st296
  have st299 := st296.f2
  obtain ⟨fp301, st300⟩ := st299.shut
  have st303 := nI (x := (wP y id (aD y id).toNat)) st300.f4 hyok
  have hfe : aR y id = ((wP y id (aD y id).toNat), 0) := by rw [gP (xG h38) hra hr, if_neg aA]
  rw [hfe]
  exact ⟨_, _, rfl, st303.d1.d1.d1.d1⟩
 refine kJ 11 [(none, some 5, .is (Res.es (((CD.drop oD).take (y.runs.length * 8)).take ((aD y id).toNat * 8)) (y.runs.take (aD y id).toNat) fE0)), (some 0, some 5, .of (ι := Nat) [34] (fun b339 => [(.slice (some ⟨b339, 0, none⟩) 0 0)]) (fun b339 => Res.row (α := Run) 55 (.slice (some ⟨b339, 0, none⟩) 0 0) [] [])), (some 5, none, .of (ι := Value) [39] (fun v348 => [v348]) (fun v348 => Res.row (α := Run) 55 v348 ([] ++ (y.runs.take (aD y id).toNat)) ([] ++ fE0)))] [(false, .ex (fun (b339 : Nat) => (.slice (some ⟨b339, 0, none⟩) 0 0))), (true, .is (.pointer (some ⟨b21, 0 + 3, none⟩))), (true, .is (.slice (some ⟨bD, oD, none⟩) y.runs.length cD)), (true, .is (I (aD y id))), (true, .is (.slice (some ⟨bD, oD, none⟩) (aD y id).toNat cD)), (false, .ex (fun (v348 : Value) => v348)), (true, .is (.pointer (some ⟨b21, 0 + 3, none⟩))), (true, .is (.slice (some ⟨bD, oD, none⟩) y.runs.length cD)), (true, .is (I (aD y id))), (true, .is (I ((aD y id) + 1))), (true, .is (.slice (some ⟨bD, oD + ((aD y id).toNat + 1) * 8, none⟩) (y.runs.length - ((aD y id).toNat + 1)) (cD - ((aD y id).toNat + 1))))] mix aB aB aB aB (rs0 := [Res.es (((CD.drop oD).take (y.runs.length * 8)).take ((aD y id).toNat * 8)) (y.runs.take (aD y id).toNat) fE0]) ⟨_, _, rfl, rfl, rfl⟩ st88 st88.below ⟨?_, (fq_ jP (h68_.at 6)), (fun f W hst hbl hd hf => dW uE rfl (hd 1 35 rfl rfl) (hst.get 3 rfl) (i := 3) rfl rfl brq), (mq_ (h68_.at 7)), (fun f W hst hbl hd hf => rW (h := (aD y id).toNat) fJ (hd 2 36 rfl rfl) (hd 3 37 rfl rfl) aA aA aA brq), ?_, (fq_ jP (h68_.at 6)), (fun f W hst hbl hd hf => dW uE rfl (hd 6 40 rfl rfl) (hst.get 3 rfl) (i := 3) rfl rfl brq), (mq_ (h68_.at 7)), (fun f W hst hbl hd hf => jI (hd 8 42 rfl rfl) rfl aM2 brq), (fun f W hst hbl hd hf => lN (l := (aD y id).toNat + 1) fJ (hd 7 41 rfl rfl) (hd 9 43 rfl rfl) aA aA aA brq), trivial⟩ ?_
 ·intro f W ru oth hu hst hbl hd hf
  have hn_ : ru = [] := hu
  subst hn_
  try simp only [cap_, sB] at hst
  refine (bR (cs := []) (e := 55) xX (eQ nV _) hst ?_); intro b339 W340 hb341 st342
  have st342 := st342.row_empty (α := Run)
  exact ⟨⟨b339, rfl⟩, ⟨_, ⟨_, _, rfl, ⟨b339, (ce rfl rfl), rfl⟩, rfl⟩, st342⟩, st342.below⟩
 ·intro f W ru oth hu hst hbl hd hf
  obtain ⟨_, _, rfl, rfl, _, _, rfl, ⟨b339, he344, rfl⟩, hn_⟩ := hu
  have hn_ : _ = [] := hn_
  subst hn_
  have hu344_34 : f 34 = (.slice (some ⟨b339, 0, none⟩) 0 0) := congrArg (fun l => l.getD 0 undef) he344
  try simp only [cap_, sB] at hst
  have st345 := hst.f3
  refine (iE (α := Run) (m := (aD y id).toNat) (o := oD) nV hu344_34 (hd 4 38 rfl rfl) (by rw [length_take]; omega) (fun _ => rfl) (by rw [take_take]; congr 1; have hz : (aD y id).toNat * 8 ≤ y.runs.length * 8 := Nat.mul_le_mul_right _ aA; exact (Nat.min_eq_left hz).symm ▸ rfl) st345.f1.f2 (by simp only [length_append, length_take, length_nil]; unfold maxLen; omega) (by simp only [length_append, length_take, length_nil]; omega) ?_); intro v348 W349 st350
  exact ⟨⟨v348, rfl⟩, ⟨_, ⟨_, _, rfl, ⟨v348, (ce rfl rfl), rfl⟩, rfl⟩, st350.f6.f6.f6.f6.f5.f6.f6⟩, st350.f6.f6.f6.f6.f5.f6.f6.below⟩
 intro f358 W359 rs_ hAL_ st362 hbl363 hv360 hf361
 obtain ⟨_, _, rfl, ⟨v348, he364, rfl⟩, hn_⟩ := hAL_
 have hn_ : _ = [] := hn_
 subst hn_
 have hu364_39 : f358 39 = v348 := congrArg (fun l => l.getD 0 undef) he364
 try simp only [cap_, sB] at st362
 have st366 := st362.f2
 refine sg (iE (α := Run) (m := y.runs.length - ((aD y id).toNat + 1)) (o := oD + ((aD y id).toNat + 1) * 8) nV hu364_39 (hv360 10 44 dE rfl) (by rw [length_drop]) (fun _ => rfl) (aT7 aA) st366.f2.f2 (by simp only [length_append, length_take, length_nil]; unfold maxLen; omega) (by simp only [length_append, length_take, length_nil]; omega) ?_); intro v369 W370 st371
 refine sg (dG jP ((hf361 6 rfl).trans (h68_.at 6)) (sgn (iC (v := v369) aB rfl rfl (Sl.cells (eG (st371.f3.get 1 rfl))) (Sl.one (eG (st371.f3.get 1 rfl))) st371.f3 xY rfl ?_))); intro W375 st376
 refine aF (wp_seq (wp_seq (aC (sg (dB (aF (wp_block (iB (fun (m : Nat) (f : Nat → Value) (W : World) => ∃ (i : Nat) (fo379 : List Nat), i ≤ y.shelf.length ∧ m = y.shelf.length - i ∧ Ag [(1, I id), (4, pt_ b6), (6, pt_ b21), (8, I (i : Int))] f ∧ St w W ([Res.bx b21 [I y.now, I y.seq, v82_0, v369] 27, Res.row (α := Run) 55 v369 (([] ++ (y.runs.take (aD y id).toNat)) ++ (y.runs.drop ((aD y id).toNat + 1))) (([] ++ fE0) ++ fE1), Res.bx bD CD eD, Res.own (α := List (List Entry)) v82_0 (lW id y.shelf i) fo379, Res.bx b6 [I 0, I 0, .slice none 0 0, .slice none 0 0] 27, Res.bx b1 [I y.now, I y.seq, v65_0, v65_1] 27])) (y.shelf.length - 0) ?_ ?_))))))))
 ·exact ⟨0, g82_0, Nat.zero_le _, rfl, (Ag.cons ((hf361 1 rfl).trans (h68_.at 1)) (Ag.cons ((hf361 4 rfl).trans (h68_.at 4)) (Ag.cons ((hf361 6 rfl).trans (h68_.at 6)) (Ag.cons rfl Ag.nil)))), (by rw [sG]; exact st376)⟩
 intro m380 f381 W382 hJ383
 obtain ⟨i, fo379, hil, rfl, hA385, st384⟩ := hJ383
 have hfl := aJ9 id y.shelf i
 refine wp_seq (wp_seq (aC (rn st384 5 hA385 [] [(51, .bool (decide ((i : Int) < ((lW id y.shelf i).length : Int))))] [qb 0 rfl 2, ql (bV (st384.get 3 rfl)), .o] aB fun f387 h387_ => (aF (fX (h387_.at 51) (fun h388p => ?_) (fun h388p => ?_))))))
 ·refine wp_skip (wp_seq (wp_block (wp_seq ?_)))
  have hq_ := tY (xs := y.shelf) (i := i) aA
  obtain ⟨l, hl⟩ := hq_
  have hla := aD8 (id := id) hl
  have hl80 := kK (hY.each l (mem_of_getElem? hl))
  have hq_ := St.lendx (α := List Entry) dE st384.f3 (x := l) hla
  obtain ⟨b390, e390, pre390, cs390, post390, fi390, fr390, hPA390, hC390, st391⟩ := hq_
  have hq_ := st391.f1.uncs1
  obtain ⟨v390, he390, st396⟩ := hq_; subst he390
  refine aC (sg (bR (cs := []) (e := 243) xX (eQ fL _) st396 ?_)); intro b397 W398 hb399 st400
  have st400 := st400.row_empty (α := Entry)
  refine sg (aW (v := (.slice (some ⟨b397, 0, none⟩) 0 0)) rfl (aF (wp_seq (wp_seq (aC (sg (dB (aF (wp_block (iB (fun (m : Nat) (f : Nat → Value) (W : World) => ∃ (j : Nat) (v406 : Value), j ≤ l.length ∧ m = l.length - j ∧ Ag [(1, I id), (4, pt_ b6), (6, pt_ b21), (8, I (i : Int)), (9, v406), (10, I (j : Int))] f ∧ St w W ([Res.row (α := Entry) 243 v406 (flE id (l.take j)) [], Res.own (α := List Entry) v390 l fi390, Res.bx b390 (pre390 ++ [v390] ++ post390) e390, Res.rest (α := (List Entry)) v82_0 b390 pre390 post390 (lW id y.shelf i) i fr390, Res.bx b21 [I y.now, I y.seq, v82_0, v369] 27, Res.row (α := Run) 55 v369 (([] ++ (y.runs.take (aD y id).toNat)) ++ (y.runs.drop ((aD y id).toNat + 1))) (([] ++ fE0) ++ fE1), Res.bx bD CD eD, Res.bx b6 [I 0, I 0, .slice none 0 0, .slice none 0 0] 27, Res.bx b1 [I y.now, I y.seq, v65_0, v65_1] 27])) (l.length - 0) ?_ ?_))))))))))
  ·exact ⟨0, (.slice (some ⟨b397, 0, none⟩) 0 0), Nat.zero_le _, rfl, (h387_.put.put.put.to aB), st400⟩
  intro m407 f408 W409 hJ410
  obtain ⟨j, v406, hjl, rfl, hA412, st411⟩ := hJ410
  have hfn := aD7 id (l.take j)
  have htl := length_take_le j l
  refine wp_seq (wp_seq (aC (rn st411 8 hA412 [] [(62, .bool (decide ((j : Int) < (l.length : Int))))] [qb 4 rfl 2, qx hPA390, qp 2 rfl 0, ql (bV (st411.get 1 rfl)), .o] aB fun f414 h414_ => (aF (fX (h414_.at 62) (fun h415p => ?_) (fun h415p => ?_))))))
  ·refine wp_skip (wp_seq (wp_block (wp_seq ?_)))
   have hq_ := tY (xs := l) (i := j) aA
   obtain ⟨e, he⟩ := hq_
   refine aC ?_
   have hi1fd33 : j < l.length := (gsi_.1 he).1
   obtain ⟨b417, o417, cs417, f417, hp417, hr417, hc417, hm417⟩ := idxq (bV (st411.get 1 rfl)) (i := j) he
   have hk418 := hc417
   obtain ⟨he418, rfl, hok418⟩ := hk418
   have he418 : _ = [I e.prio, I e.seq, I e.run, I e.task] := he418
   subst he418
   refine rn st411 11 h414_ [] [(75, .bool (!decide (e.run = id)))] [qb 4 rfl 2, qx hPA390, qp 2 rfl 0, qx hp417, qn hr417 2, .o] aB fun f419 h419_ => (aF (aX7 (h419_.at 75) (fun h420p => ?_) (fun h420p => ?_)))
   ·refine aC (rn st411 9 h419_ [] [(76, v406), (84, .agg #[I e.prio, I e.seq, I e.run, I e.task])] [qb 4 rfl 2, qx hPA390, qp 2 rfl 0, qx hp417, qn hr417 0] aB fun f422 h422_ => ?_)
    have hoke : e.ok := (hc417).2.2
    refine sg (bR (cs := [I e.prio, I e.seq, I e.run, I e.task]) (e := 243) (yX (h422_.at 84) xX) (iY fL _ _ rfl rfl dE) st411 ?_); intro b423 W424 hb425 st426
    refine sg (iF (ys := [(⟨e.prio, e.seq, e.run, e.task⟩ : Entry)]) fL (h422_.at 76) rfl rfl st426.f1 (Elems.one1 (show Shape.C _ [I e.prio, I e.seq, I e.run, I e.task] e [] from ⟨rfl, rfl, hoke⟩)) (by unfold maxLen; omega) aA ?_); intro v429 W430 st431
    refine sg (aW (v := v429) rfl (aF (aC (rn st431 3 h422_.put.put.put [10] [(10, I ((j : Int) + 1))] [qad (j : Int) 1] aB fun f435 h435_ => (aF ?_)))))
    exact ⟨_, l.length - (j + 1), aA, rfl, j + 1, v429, aA, rfl, (h435_.to aB), (by rw [flE_t he aA]; exact st431)⟩
   refine wp_skip (aC (rn st411 3 h419_ [10] [(10, I ((j : Int) + 1))] [qad (j : Int) 1] aB fun f437 h437_ => (aF ?_)))
   exact ⟨_, l.length - (j + 1), aA, rfl, j + 1, v406, aA, rfl, (h437_.to aB), (by rw [flE_f he aA]; exact st411)⟩
  refine wp_exit ?_
  have hje : j = l.length := by omega
  rw [hje, take_length] at st411
  obtain ⟨fp438, st439⟩ := st411.shut
  refine aC (rn st439 5 h414_ [] [(90, v406), (91, .pointer (some ⟨b390, pre390.length, none⟩))] [qb 4 rfl 2, qx hPA390] aB fun f441 h441_ => (sgn (jG (i := 0) (v := v406) aB (h441_.at 91) (h441_.at 90) (Sl.cells (bV (st439.f2.get 1 rfl))) (Sl.one (bV (st439.f2.get 1 rfl))) st439.f2 rfl xY rfl ?_))); intro W443 st444
  refine aF (aC (rn st444 3 h441_ [8] [(8, I ((i : Int) + 1))] [qad (i : Int) 1] aB fun f446 h446_ => (aF ?_)))
  have st448 := st444.f1.cs1
  obtain ⟨fp452, st453⟩ := St.give (α := List Entry) st448.f3.f1.f2
  exact ⟨_, y.shelf.length - (i + 1), aA, rfl, i + 1, fp452, aA, rfl, (h446_.to aB), (by rw [← wQ hl]; exact st453.f6.f6.f2.f6.f6.f6.d6)⟩
 refine wp_exit (wp_seq (aC (sg (jH (cs := [I y.now, I y.seq, v82_0, v369]) dP rfl (h387_.at 6) (st384.get 0 rfl) rfl rfl (sgn (eA aB (h387_.at 4) rfl (cA rfl (cA rfl (cA (Sl.one (bV (st384.f4.get 4 rfl))) (cA (Sl.one (eG (st384.f4.get 2 rfl))) qU)))) st384.f4 xY rfl ?_)))))); intro W464 st465
 refine sg (dB (aF (wr (aG7 dP rfl results225 (h387_.at 4) (st465.get 0 rfl) rfl rfl ?_))))
 have hie : i = y.shelf.length := by omega
 rw [wR hie] at st465
 have hera : ([] ++ (y.runs.take (aD y id).toNat)) ++ (y.runs.drop ((aD y id).toNat + 1)) = y.runs.eraseIdx (aD y id).toNat := by rw [nil_append, eraseIdx_eq_take_drop_succ]
 rw [hera] at st465
 have st468 := st465.f2
 obtain ⟨fp470, st469⟩ := st468.shut
 have st472 := nI (x := (wP y id (aD y id).toNat)) st469.f4 hyok
 have hfe : aR y id = ((wP y id (aD y id).toNat), 0) := by rw [gP (xG h38) hra hr, if_neg aA]
 rw [hfe]
 exact ⟨_, _, rfl, st472.d1.d1.d1.d1⟩
def cQ (c : Int) : Reply := ⟨c, 0, 0, 0⟩
noncomputable def doD (y : Yard) (d : Deed) : Yard × Reply :=
 if aX d = false then (y, cQ 5) else if d.kind = 1 then ((aS y d.run d.plan).1, cQ (aS y d.run d.plan).2) else if d.kind = 2 then eH y d.worker d.draw else if d.kind = 3 then (dI y d.run d.task d.try_, cQ (cM y d.run d.task d.try_))
 else if d.kind = 4 then (kP y d.run d.task d.try_, cQ (cM y d.run d.task d.try_)) else if d.kind = 5 then ((cS y).1, cQ (cS y).2) else if d.kind = 6 then ((bA y d.run).1, cQ (bA y d.run).2)
 else if d.kind = 7 then ((aR y d.run).1, cQ (aR y d.run).2) else (cJ y, cQ (if aI y = true then 0 else 8))
theorem dL {c : Int} (h : -100 ≤ c ∧ c ≤ 100) : (cQ c).ok := by simp only [cQ, Reply.ok, I64]; omega
theorem deedOk_edges {d : Deed} (h : aX d = true) : d.plan.edges.length ≤ 31 := by
 unfold aX at h
 simp only [Bool.and_eq_true, decide_eq_true_eq] at h
 exact h.1.1.2
theorem oH (y : Yard) (id : Int) (p : Plan) : -100 ≤ (aS y id p).2 ∧ (aS y id p).2 ≤ 100 := by
 have := pf_rng p
 unfold aS
 repeat' split
 all_goals first | (simp only; omega) | (show -100 ≤ aG p ∧ aG p ≤ 100; omega)
theorem uV (y : Yard) : -100 ≤ (cS y).2 ∧ (cS y).2 ≤ 100 := by
 unfold cS
 repeat' split
 all_goals (simp only; omega)
theorem oS (y : Yard) (id : Int) : -100 ≤ (bA y id).2 ∧ (bA y id).2 ≤ 100 := by
 unfold bA
 repeat' split
 all_goals (simp only; omega)
theorem oN (y : Yard) (id : Int) : -100 ≤ (aR y id).2 ∧ (aR y id).2 ≤ 100 := by
 unfold aR
 repeat' split
 all_goals (simp only; omega)

theorem own_yi {w W : World} {e : Ending} {x : Yard} {n : Int} (h : ∃ (cs' : List Value) (fp' : List Nat), e = .returned (.tuple #[.agg cs'.toArray, I n]) ∧ St w W [Res.own (.agg cs'.toArray) x fp']) : ∃ (a : Unit) (vs : List Value) (rs : List Res), True ∧ e = .returned (qJ vs) ∧ Rks vs [Rk.S x, Rk.I n] rs ∧ St w W rs := by
 obtain ⟨cs, fp, he, st⟩ := h
 exact ⟨(), [.agg cs.toArray, I n], [Res.cs cs x fp], trivial, he, ⟨[Res.cs cs x fp], [], ⟨cs, fp, rfl, rfl⟩, ⟨[], [], ⟨rfl, rfl⟩, rfl, rfl⟩, rfl⟩, st.cs rfl⟩
structure SubJ (y : Yard) (id : Int) (p : Plan) : Prop where
 ss : 4 ≤ y.shelf.length
 sq : 0 ≤ y.seq ∧ y.seq ≤ 4000000000
 tl : (bC id p).tasks.length ≤ 12
 tk : (aK (bC id p).tasks 2).length ≤ 12
 ln : (y.shelf.getD (aO (bC id p).id).toNat []).length ≤ 80
 r8 : y.runs.length < 8
 nw : iT id p = true
 ok : (aY0 y id p).ok
theorem sub_j {y : Yard} {id : Int} {p : Plan} (gp : p.ok) (h0 : aI y = true) (h1 : inB id 1 9999 = true) (h3 : aG p = 0) (h4 : fR y p = true) : SubJ y id p := by
 have hY := fW h0
 have hplr := aH4 h3
 have hrq : y.seq ≤ 999999000 - p.tasks ∧ y.runs.length < 8 := by unfold fR at h4; simp at h4; omega
 have hsq := hY.seq
 have hss := hY.shelf
 have htl : (bC id p).tasks.length = p.tasks.toNat := gJ p _
 have htk : (aK (bC id p).tasks 2).length ≤ (bC id p).tasks.length := eZ _ _ _
 have hsh := fA id
 have hnow := hY.now
 refine ⟨by omega, by omega, by omega, by omega, Nat.le_trans (iJ hY _ (by have : aO (bC id p).id = aO id := rfl; omega)) dE, hrq.2, by unfold iT; simp [h1, h3], ?_⟩
 show I64 _ ∧ I64 _
 simp only [aY0, I64]; omega
theorem sub_8 {y : Yard} {id : Int} {p : Plan} (h0 : aI y = false) : (y, (8 : Int)) = aS y id p := by unfold aS; rw [if_pos h0]
theorem sub_5 {y : Yard} {id : Int} {p : Plan} (h0 : aI y = true) (h1 : inB id 1 9999 = false) : (y, (5 : Int)) = aS y id p := by unfold aS; rw [if_neg (by rw [h0]; decide), if_pos h1]
theorem sub_6 {y : Yard} {id : Int} {p : Plan} (h0 : aI y = true) (h1 : inB id 1 9999 = true) (h2 : 0 ≤ aD y id) : (y, (6 : Int)) = aS y id p := by unfold aS; rw [if_neg (by rw [h0]; decide), if_neg (by rw [h1]; decide), if_pos h2]
theorem sub_p {y : Yard} {id : Int} {p : Plan} (h0 : aI y = true) (h1 : inB id 1 9999 = true) (h2 : ¬ 0 ≤ aD y id) (h3 : ¬ aG p = 0) : (y, aG p) = aS y id p := by unfold aS; rw [if_neg (by rw [h0]; decide), if_neg (by rw [h1]; decide), if_neg h2, if_pos h3]
theorem sub_7 {y : Yard} {id : Int} {p : Plan} (h0 : aI y = true) (h1 : inB id 1 9999 = true) (h2 : ¬ 0 ≤ aD y id) (h3 : aG p = 0) (h4 : fR y p = false) : (y, (7 : Int)) = aS y id p := by unfold aS; rw [if_neg (by rw [h0]; decide), if_neg (by rw [h1]; decide), if_neg h2, if_neg (by simp [h3]), if_pos h4]
theorem sub_0 {y : Yard} {id : Int} {p : Plan} {q : Int × List (List Entry)} (h0 : aI y = true) (h1 : inB id 1 9999 = true) (h2 : ¬ 0 ≤ aD y id) (h3 : aG p = 0) (h4 : fR y p = true) (hq : pO (bC id p) (aK (bC id p).tasks 2) y.seq y.shelf q) : ((⟨y.now, q.1, q.2, y.runs ++ [bC id p]⟩ : Yard), (0 : Int)) = aS y id p := by
 unfold aS; rw [if_neg (by rw [h0]; decide), if_neg (by rw [h1]; decide), if_neg h2, if_neg (by simp [h3]), if_neg (by rw [h4]; decide)]
 have hq : q = _ := hq
 rw [hq]; rfl
theorem sub_g {y : Yard} {id : Int} {p : Plan} {q : Int × List (List Entry)} (hj : SubJ y id p) (hq : pO (bC id p) (aK (bC id p).tasks 2) y.seq y.shelf q) : (⟨y.now, q.1, q.2, y.runs ++ [bC id p]⟩ : Yard).ok := by
 have hq : q = _ := hq
 rw [hq]; exact hj.ok
theorem new_t {P : Program} {F : FuncId} {id : Int} {p : Plan} {ps : List Par} (h : iT id p = true) (C : Ct1 P F ps [.S (vW id p), .B (iT id p)]) : Ct1 P F ps [.S (bC id p), .B true] := by rw [bA3 h, h] at C; exact C
theorem Submit_s (y : Yard) (id : Int) (p : Plan) (hw : y.wt ≤ 1048576) (hp : p.wt ≤ 1048576) : Ct1 prog 219 [.S y, .I id, .S p] [.S (aS y id p).1, .I (aS y id p).2] :=
 .one (aS y id p) (rk := fun q => [.S q.1, .I q.2]) <| vc func219 (fun (hg : gin [Par.S y, Par.I id, Par.S p]) => let gy := hg.1.1
  let gp : p.ok := hg.2.1.1
  .c func184 (CopyYardR_s y hw) (hg := ⟨gy, trivial⟩) fun _ => .c func185 (iU y hw) (hg := ⟨gy, trivial⟩) fun _ => .v (aI y) (fun h0 => .rt (y, 8) ⟨sub_8 h0, gy, trivial⟩) (fun h0 =>
  .c func138 (InV id 1 9999) fun _ => .v (inB id 1 9999) (fun h1 => .rt (y, 5) ⟨sub_5 h0 h1, gy, trivial⟩) (fun h1 =>
  .c func291 (iK y id hw) (hg := ⟨gy, trivial⟩) fun _ => .s ((0 : Int) ≤ aD y id) (fun h2 => .rt (y, 6) ⟨sub_6 h0 h1 h2, gy, trivial⟩) (fun h2 =>
  .c func325 (kU p) (hg := ⟨gp, trivial⟩) fun _ => .u (aG p = 0) (fun h3 => .c func325 (kU p) (hg := ⟨gp, trivial⟩) fun _ => .rt (y, aG p) ⟨sub_p h0 h1 h2 h3, gy, trivial⟩) (fun h3 =>
  .c func326 (RoomFor_s y p hw) (hg := ⟨gy, gp, trivial⟩) fun _ => .v (fR y p) (fun h4 => .rt (y, 7) ⟨sub_7 h0 h1 h2 h3 h4, gy, trivial⟩) (fun h4 => let hj := sub_j gp h0 h1 h3 h4
  .c func327 (new_t hj.nw (RunNew_s id p)) (hg := ⟨gp, trivial⟩) fun hz => let gr : (bC id p).ok := hz.1.1
  .az inferInstance y.runs (bC id p) gr 96 (by have := hj.r8; unfold maxLen; omega) (by have := hj.r8; omega) <| .in_ func328 (layD true 13 6 7 y.now y.seq y.shelf zRun (bC id p) hj.ss (Nat.le_trans hj.ln aA) (by have := hj.tl; omega) hj.sq gr (fun _ => rfl)) fun q hq0 => let hq : pO (bC id p) (aK (bC id p).tasks 2) y.seq y.shelf q := (by rw [← fresh_zero]; exact hq0)
      .zr 7 <| .rt (⟨y.now, q.1, q.2, y.runs ++ [bC id p]⟩, 0) ⟨sub_0 h0 h1 h2 h3 h4 hq, sub_g hj hq, trivial⟩)))))) aB
theorem Forget_s (y : Yard) (id : Int) (hid : I64 id) (hw : y.wt ≤ 1048576) : Ct1 prog 225 [.S y, .I id] [.S (aR y id).1, .I (aR y id).2] := ⟨fun w us _ hps => by
 match us, hps with
 | [_, _], ⟨⟨cs, fp, rfl, hc⟩, rfl, _⟩ => exact (ForgetS w hc id hid hw).mono fun e w' h => own_yi h⟩
theorem dd_wt {d : Deed} (h : aX d = true) : d.plan.wt ≤ 1048576 := by have := deedOk_edges h; unfold Plan.wt; omega
theorem aU1 {d : Deed} (h : aX d = true) : 1 ≤ d.kind ∧ d.kind ≤ 8 := by
 unfold aX at h
 simp only [Bool.and_eq_true] at h
 exact inB_iff.1 h.1.1.1
theorem do_0 {y : Yard} {d : Deed} (h : aX d = false) : (y, cQ 5) = doD y d := by unfold doD; rw [if_pos h]
theorem do_1 {y : Yard} {d : Deed} (h : aX d = true) (hk : d.kind = 1) : ((aS y d.run d.plan).1, cQ (aS y d.run d.plan).2) = doD y d := by unfold doD; rw [if_neg (by rw [h]; simp), if_pos hk]
theorem do_2 {y : Yard} {d : Deed} (h : aX d = true) (hk : d.kind = 2) : eH y d.worker d.draw = doD y d := by unfold doD; rw [if_neg (by rw [h]; simp), if_neg aA, if_pos hk]
theorem do_3 {y : Yard} {d : Deed} (h : aX d = true) (hk : d.kind = 3) : (dI y d.run d.task d.try_, cQ (cM y d.run d.task d.try_)) = doD y d := by unfold doD; rw [if_neg (by rw [h]; simp), if_neg aA, if_neg aA, if_pos hk]
theorem do_4 {y : Yard} {d : Deed} (h : aX d = true) (hk : d.kind = 4) : (kP y d.run d.task d.try_, cQ (cM y d.run d.task d.try_)) = doD y d := by unfold doD; rw [if_neg (by rw [h]; simp), if_neg aA, if_neg aA, if_neg aA, if_pos hk]
theorem do_5 {y : Yard} {d : Deed} (h : aX d = true) (hk : d.kind = 5) : ((cS y).1, cQ (cS y).2) = doD y d := by unfold doD; rw [if_neg (by rw [h]; simp), if_neg aA, if_neg aA, if_neg aA, if_neg aA, if_pos hk]
theorem do_6 {y : Yard} {d : Deed} (h : aX d = true) (hk : d.kind = 6) : ((bA y d.run).1, cQ (bA y d.run).2) = doD y d := by unfold doD; rw [if_neg (by rw [h]; simp), if_neg aA, if_neg aA, if_neg aA, if_neg aA, if_neg aA, if_pos hk]
theorem do_7 {y : Yard} {d : Deed} (h : aX d = true) (hk : d.kind = 7) : ((aR y d.run).1, cQ (aR y d.run).2) = doD y d := by unfold doD; rw [if_neg (by rw [h]; simp), if_neg aA, if_neg aA, if_neg aA, if_neg aA, if_neg aA, if_neg aA, if_pos hk]
theorem do_8 {y : Yard} {d : Deed} (h : aX d = true) (hk : d.kind = 8) (c : Int) (hc : (if aI y = true then 0 else 8) = c) : (cJ y, cQ c) = doD y d := by unfold doD; rw [if_neg (by rw [h]; simp), if_neg aA, if_neg aA, if_neg aA, if_neg aA, if_neg aA, if_neg aA, if_neg aA, ← hc]
theorem aE4 (y : Yard) (a b c : Int) : (cQ (cM y a b c)).ok := dL (by have := askF_rng y a b c; omega)
theorem Do_s (y : Yard) (d : Deed) (hw : y.wt ≤ 1048576) : Ct1 prog 115 [.S y, .S d] [.S (doD y d).1, .S (doD y d).2] :=
 .one (doD y d) (rk := fun q => [.S q.1, .S q.2]) <| vc func115 (fun (hg : gin [Par.S y, Par.S d]) => let gy := hg.1.1
  let gd : d.ok := hg.2.1.1
  .c func217 (DeedOk_s d) (hg := ⟨gd, trivial⟩) fun _ => .v (aX d)
   (fun h => .c func184 (dN y hw) (hg := ⟨gy, trivial⟩) fun _ => .rt (y, cQ 5) ⟨do_0 h, gy, dL aA, trivial⟩)
   (fun h => let hk := aU1 h
    .s (d.kind = 1)
    (fun h1 => .c func219 (Submit_s y d.run d.plan hw (dd_wt h)) (hg := ⟨gy, gd.2.2.1, trivial⟩) fun hz => .rt ((aS y d.run d.plan).1, cQ (aS y d.run d.plan).2) ⟨do_1 h h1, hz.1.1, dL (oH y d.run d.plan), trivial⟩)
    (fun h1 => .s (d.kind = 2)
    (fun h2 => .c func220 (Poll_s y d.worker d.draw hw gd.2.2.2.2.2.2) (hg := ⟨gy, trivial⟩) fun hz => .rt (eH y d.worker d.draw) ⟨do_2 h h2, hz.1.1, hz.2.1.1, trivial⟩)
    (fun h2 => .s (d.kind = 3)
    (fun h3 => .c func221 (Complete_s y d.run d.task d.try_ hw) (hg := ⟨gy, trivial⟩) fun hz => .rt (dI y d.run d.task d.try_, cQ (cM y d.run d.task d.try_)) ⟨do_3 h h3, hz.1.1, aE4 _ _ _ _, trivial⟩)
    (fun h3 => .s (d.kind = 4)
    (fun h4 => .c func222 (Fail_s y d.run d.task d.try_ hw) (hg := ⟨gy, trivial⟩) fun hz => .rt (kP y d.run d.task d.try_, cQ (cM y d.run d.task d.try_)) ⟨do_4 h h4, hz.1.1, aE4 _ _ _ _, trivial⟩)
    (fun h4 => .s (d.kind = 5)
    (fun h5 => .c func223 (Tick_s y hw) (hg := ⟨gy, trivial⟩) fun hz => .rt ((cS y).1, cQ (cS y).2) ⟨do_5 h h5, hz.1.1, dL (uV y), trivial⟩)
    (fun h5 => .s (d.kind = 6)
    (fun h6 => .c func224 (Cancel_s y d.run hw) (hg := ⟨gy, trivial⟩) fun hz => .rt ((bA y d.run).1, cQ (bA y d.run).2) ⟨do_6 h h6, hz.1.1, dL (oS y d.run), trivial⟩)
    (fun h6 => .s (d.kind = 7)
    (fun h7 => .c func225 (Forget_s y d.run gd.2.1 hw) (hg := ⟨gy, trivial⟩) fun hz => .rt ((aR y d.run).1, cQ (aR y d.run).2) ⟨do_7 h h7, hz.1.1, dL (oN y d.run), trivial⟩)
    (fun h7 => .c func226 (Restart_s y hw) (hg := ⟨gy, trivial⟩) fun hz => .c func185 (iU y hw) (hg := ⟨gy, trivial⟩) fun _ => .v (aI y)
     (fun h9 => .rt (cJ y, cQ 8) ⟨do_8 h aA 8 (by rw [h9]; rfl), hz.1.1, dL aA, trivial⟩)
     (fun h9 => .rt (cJ y, cQ 0) ⟨do_8 h aA 0 (by rw [h9]; rfl), hz.1.1, dL aA, trivial⟩)))))))))) aB
section
variable {p q : Entry → Bool} {xs : List Entry} {k m c : Nat} {e : Entry} {g : Nat × Nat × List Entry}
theorem aU0 (hpq : ∀ e, q e = !p e) (h : xs.any p = false) : xs = xs.filter q := by
 symm; rw [filter_eq_self]; intro x hx; rw [hpq, Bool.not_eq_true']; simpa using any_eq_false.1 h x hx
theorem dl_some (hpq : ∀ e, q e = !p e) (hk : xs[k]? = some e) (h : (xs.take k).any p = false) (hp : p e = true) : xs.take k = (xs.take (k + 1)).filter q := by
 rw [← cG hk, filter_append, ← aU0 hpq h]; simp [hpq, hp]
theorem dl_any (h : xs[k]? = some e) (h0 : (xs.take k).any p = false) (hp : ¬ p e = true) : (xs.take (k + 1)).any p = false := by
 rw [← cG h, any_append, h0]; simp [hp]
def DlF (q : Entry → Bool) (xs : List Entry) : Option Nat → Prop
 | none => xs = xs.filter q
 | some k => k < xs.length ∧ xs.take k = (xs.take (k + 1)).filter q
structure DlJ (q : Entry → Bool) (xs : List Entry) (g : Nat × Nat × List Entry) : Prop where
 lt : g.2.1 < g.1
 le : g.1 ≤ xs.length
 len : g.2.2.length = xs.length
 tk : g.2.2.take g.2.1 = (xs.take g.1).filter q
 dr : g.2.2.drop g.1 = xs.drop g.1
theorem DlJ.at_ (h : DlJ q xs g) (he : g.2.2[g.1]? = some e) : xs[g.1]? = some e := by
 have h1 : (g.2.2.drop g.1)[0]? = some e := by simpa using he
 rw [h.dr] at h1; simpa using h1
theorem DlJ.dr1 (h : DlJ q xs g) : g.2.2.drop (g.1 + 1) = xs.drop (g.1 + 1) := by
 have := congrArg (fun l => l.drop 1) h.dr
 simpa [drop_drop, Nat.add_comm] using this
theorem DlJ.skip (h : DlJ q xs g) (he : g.2.2[g.1]? = some e) (hq : q e = false) : DlJ q xs (g.1 + 1, g.2.1, g.2.2) := by
 have h1 := h.at_ he
 have h2 := (gsi_.1 h1).1
 have h3 := h.lt
 exact ⟨by show g.2.1 < g.1 + 1; omega, h2, h.len, by show g.2.2.take g.2.1 = (xs.take (g.1 + 1)).filter q; rw [← cG h1, filter_append, h.tk]; simp [hq], h.dr1⟩
theorem DlJ.keep (h : DlJ q xs g) (he : g.2.2[g.1]? = some e) (hq : q e = true) : DlJ q xs (g.1 + 1, g.2.1 + 1, g.2.2.set g.2.1 e) := by
 have h1 := h.at_ he
 have h2 := (gsi_.1 h1).1
 have h3 := h.lt
 have h4 := h.len
 refine ⟨by show g.2.1 + 1 < g.1 + 1; omega, h2, by show (g.2.2.set g.2.1 e).length = _; rw [length_set, h4], ?_, ?_⟩
 ·show (g.2.2.set g.2.1 e).take (g.2.1 + 1) = (xs.take (g.1 + 1)).filter q
  rw [← cG h1, filter_append, ← h.tk, ← cG (getElem?_set_self (show g.2.1 < g.2.2.length by omega)), take_set_of_le (Nat.le_refl _)]; simp [hq]
 show (g.2.2.set g.2.1 e).drop (g.1 + 1) = xs.drop (g.1 + 1)
 rw [drop_set_of_lt aA]; exact h.dr1
theorem DlJ.all (h : DlJ q xs g) (hn : ¬ (g.1 : Int) < g.2.2.length) : g.2.2.take g.2.1 = xs.filter q := by
 have h4 := h.len
 rw [h.tk, take_of_length_le aA]
end
noncomputable def delD (j : Nat) (xs : List Entry) (hl : xs.length ≤ 1048576) (p q : Entry → Bool) (hpq : ∀ e, q e = !p e) (call : ∀ {A : Type} {R : A → Prop} (e : Entry), Dsh.good e → D prog R → D prog R) : D prog (fun _ : Unit => True) :=
 .in_ (R' := DlF q xs) func382 (
  .la (Γ := Nat) (fun k => k ≤ xs.length ∧ (xs.take k).any p = false) (fun k => xs.length - k) (fun k => [vI 8 k]) (fun _ => []) 0 (h := ⟨Nat.zero_le _, rfl⟩) fun k hk t =>
   .s ((k : Int) < xs.length)
    (fun h => .x xs k (h := by omega) fun e he ge => call e ge <| .sb (p e)
     (fun hp => .rt (some k) ⟨by omega, dl_some hpq he hk.2 hp⟩)
     (fun hp => .p k 1 (h := by unfold I64; omega) <| .n t (k + 1) [] (h1 := ⟨by omega, dl_any he hk.2 (by rw [hp]; simp)⟩)))
    (fun h => .rt none (aU0 hpq (by have := hk.2; rwa [take_of_length_le aA] at this)))) fun o => match o with
 | none => fun ho => .kt ((-1 : Int) = -1) rfl <| .g j ho <| .rt () trivial
 | some k => fun ho => let hk : k < xs.length := ho.1
  .kf ((k : Int) = -1) aA <| .p k 1 (h := by unfold I64; omega) <| .la (Γ := Nat × Nat × List Entry) (DlJ q xs) (fun g => xs.length - g.1) (fun g => [vI 6 g.1, vI 5 g.2.1]) (fun g => [oO j g.2.2]) (k + 1, k, xs) (h := ⟨Nat.lt_succ_self k, hk, rfl, ho.2, rfl⟩) fun g hJ t =>
   let h1 := hJ.lt
   let h2 := hJ.le
   let h3 := hJ.len
   .s ((g.1 : Int) < g.2.2.length)
    (fun h => .x g.2.2 g.1 (h := by omega) fun e he ge => call e ge <| .v (p e)
     (fun hp => .ex (p := fun x => g.2.2[g.2.1]? = some x) ⟨g.2.2[g.2.1]'(by omega), getElem?_eq_getElem _⟩ fun x hx => .d j hx fun _ => .i g.2.1 <| .wt 34 <| .f j g.2.2 e (h := ge) <| .p g.2.1 1 (h := by unfold I64; omega) <| .p g.1 1 (h := by unfold I64; omega) <| .n t (g.1 + 1, g.2.1 + 1, g.2.2.set g.2.1 e) [] (h1 := hJ.keep he (by rw [hpq, hp]; rfl)) (h2 := by show xs.length - (g.1 + 1) < _; omega))
     (fun hp => .p g.1 1 (h := by unfold I64; omega) <| .n t (g.1 + 1, g.2.1, g.2.2) [] (h1 := hJ.skip he (by rw [hpq, hp]; rfl)) (h2 := by show xs.length - (g.1 + 1) < _; omega)))
    (fun h => .dp inferInstance g.2.2 g.2.1 aA g.2.1 rfl <| .cz inferInstance j g.2.2 g.2.1 aA <| .dz <| .g j (hJ.all h) <| .rt () trivial)
theorem aV2 (y : Yard) (sh : Int) (hw : y.wt ≤ 1048576) : Ct1 prog 305 [.S y, .I sh] [.S (aP y sh)] :=
 .one (aP y sh) (rk := fun x => [.S x]) <| vc func305 (fun (hg : gin [Par.S y, Par.I sh]) => let gy := hg.1.1
  let hsl := cV y hw
  .c func119 (dO y hw) (hg := ⟨gy, trivial⟩) fun _ => .m (y.shelf.length : Int) 1 (h := by unfold I64; omega) <| .c func92 (cE sh 0 ((y.shelf.length : Int) - 1)) fun _ => .v (inB sh 0 ((y.shelf.length : Int) - 1))
   (fun h => .rt y ⟨sw_no h, gy, trivial⟩)
   (fun h => .ex (pH h) fun l hl => let hll := gC hl hw
    .d 4 hl fun _ => .ie sh.toNat sh (he := fV h) <| .in_ func318 (delD 8 l aA (fun e => !fresh y e) (fresh y) (fun e => (Bool.not_not _).symm)
     (fun e ge d => .in_ (R' := fun _ : Unit => True) func380 (.c func346 (aV9 y e hw) (hg := ⟨gy, ge, trivial⟩) fun _ => .rt () trivial) fun _ _ => d)) fun _ _ =>
    .ie sh.toNat sh (he := fV h) <| .wt 26 <| .f 4 y.shelf (l.filter (fresh y)) (h := trivial) <|
     .rt ⟨y.now, y.seq, y.shelf.set sh.toNat (l.filter (fresh y)), y.runs⟩ ⟨sw_in h hl, gy, trivial⟩)) aB
noncomputable def delRunInc (xs : List Run) (k : Nat) (hk : k < xs.length) (hxl : xs.length ≤ 1048576) (e1 e2 : Int) (h1 : e1 = k) (h2 : e2 = (k : Int) + 1) : Inc prog 317 (fun _ : Unit => True) where
 T := fun s us K => match us with
  | [.on (.ce (.rf j h)), .on (.ce (.vl v1)), .on (.ce (.vl v2))] => match lku s.O j with
   | some (.own i h' xs' _) => .e0 h h' <| .e1 (⟨i, xs'⟩ : Dat) ⟨instShapeRun, xs⟩ <| .e0 v1 (I e1) <| .e0 v2 (I e2) <| .fn fun r : Hd × List Nat => K () (.on (.ce (.rf j r.1))) ⟨s.E, (j, .own instShapeRun r.1 (xs.eraseIdx k) r.2) :: bO s.O j, lasting s.B, s.nx⟩
   | _ => .no
  | _ => .no
 ok := by
  intro w0 W s us K h st fa
  split at h
  ·next j hd v1 v2 =>
   split at h
   ·next i h' xs' fp hj =>
    obtain ⟨rfl, h2', h3, h4, h5⟩ := h
    subst h1 h2
    simp only [Dat.mk.injEq] at h2'
    obtain ⟨rfl, h6, h7⟩ := h2'
    obtain ⟨rfl, rfl⟩ := And.intro (eq_of_heq h6) (eq_of_heq h7)
    subst h3 h4
    have st2 := St.take (rs := []) (by simpa [Or, S.rs] using st) hj
    rw [append_nil] at st2
    refine (DeleteRun st2 hk hxl).mono ?_
    rintro e W' ⟨v', fp', rfl, st'⟩
    obtain ⟨hd, rfl, _⟩ := Sl.hd (bV (st'.get 0 rfl))
    exact ⟨(), .on (.ce (.rf j hd)), _, trivial, h5 (hd, fp'), rfl, st', fa.lasting⟩
   exact h.elim
  exact h.elim
theorem fg_8 {y : Yard} {id : Int} (h : aI y = false) : (y, (8 : Int)) = aR y id := by unfold aR; rw [if_pos h]
theorem Forget_i (y : Yard) (id : Int) (hid : I64 id) (hw : y.wt ≤ 1048576) : Ct1 prog 211 [.S y, .I id] [.S (aR y id).1, .I (aR y id).2] :=
 .one (aR y id) (rk := fun q => [.S q.1, .I q.2]) <| vc func211 (fun (hg : gin [Par.S y, Par.I id]) => let gy := hg.1.1
  let hsl := cV y hw
  .c func119 (dO y hw) (hg := ⟨gy, trivial⟩) fun _ => .c func232 (gR y id hw) (hg := ⟨gy, trivial⟩) fun _ => .c func118 (iV y hw) (hg := ⟨gy, trivial⟩) fun _ => .v (aI y)
   (fun h => .rt (y, 8) ⟨fg_8 h, gy, trivial⟩)
   (fun h => .s (aD y id < 0)
    (fun h2 => .rt (y, 10) ⟨(qY h h2).symm, gy, trivial⟩)
    (fun h2 => .ex (qN h2) fun r hr => let hrl : (aD y id).toNat < y.runs.length := (gsi_.1 hr).1
     .ye hr (aD y id) (he := mO h2) fun gr => .s (r.state = 1)
      (fun h3 => .rt (y, 13) ⟨by rw [gP h h2 hr, if_pos h3], gy, trivial⟩)
      (fun h3 => .p (aD y id) 1 (h := by unfold I64; omega) <| .iv _ func317 (delRunInc y.runs (aD y id).toNat hrl aA (aD y id) (aD y id + 1) (mO h2) aA) fun _ _ =>
       .g 5 (sG id y.shelf).symm <| .la (Γ := Nat) (fun k => k ≤ y.shelf.length) (fun k => y.shelf.length - k) (fun k => [vI 42 k]) (fun k => [oO 5 (lW id y.shelf k)]) 0 fun k hk t =>
        .s ((k : Int) < y.shelf.length)
         (fun h4 => .ex (p := fun l => y.shelf[k]? = some l) ⟨y.shelf[k]'(by omega), getElem?_eq_getElem _⟩ fun l hl => let hll := gC hl hw
          .d 5 (aD8 (id := id) hl) fun _ => .i k <| .in_ func318 (delD 12 l hll (fun e => decide (e.run = id)) (fun e => !decide (e.run = id)) (fun _ => rfl)
           (fun e ge d => .in_ (R' := fun _ : Unit => True) func319 (.rt () trivial) fun _ _ => d)) fun _ _ =>
          .i k <| .wt 55 <| .f 5 (lW id y.shelf k) (flE id l) (h := trivial) <| .g 5 (wQ (id := id) hl) <| .p k 1 (h := by unfold I64; omega) <| .n t (k + 1) [])
         (fun h4 => .g 5 (wR (id := id) (xss := y.shelf) (show k = y.shelf.length by omega)) <| .rt (wP y id (aD y id).toNat, 0) ⟨by rw [gP h h2 hr, if_neg h3], gy, trivial⟩)))) ) aB
theorem RunLeft_i (r : Run) (hl : r.plan.edges.length ≤ 1048576) (htl : r.tasks.length ≤ 1048576) : Ct1 prog 316 [.S r] [.S (gX r)] :=
 .one (gX r) (rk := fun x => [.S x]) <| vc func316 (fun (hg : gin [Par.S r]) => let gr := hg.1.1
  .c func236 (sP r hl htl) (hg := ⟨gr, trivial⟩) fun _ => .c func231 (aV4 r) (hg := ⟨gr, trivial⟩) fun _ => .sb (cU r)
   (fun h => .s (r.state = 1)
    (fun h1 => .cm _ func238 (aV7 r (-1) htl) trivial fun _ _ _ _ => .rt ⟨r.id, r.plan, 4, eL r.tasks (-1)⟩ ⟨(aT0 (by unfold zL; rw [h, decide_eq_true h1]; rfl)).symm, ⟨gr.1, gr.2.1, by show I64 4; unfold I64; omega⟩, trivial⟩)
    (fun h1 => .rt r ⟨aS9 h1, gr, trivial⟩))
   (fun h => .rt r ⟨aS8 h, gr, trivial⟩)) aB
theorem Cancel_i (y : Yard) (id : Int) (hw : y.wt ≤ 1048576) : Ct1 prog 210 [.S y, .I id] [.S (bA y id).1, .I (bA y id).2] :=
 .one (bA y id) (rk := fun q => [.S q.1, .I q.2]) <| vc func210 (fun (hg : gin [Par.S y, Par.I id]) => let gy := hg.1.1
  .c func119 (dO y hw) (hg := ⟨gy, trivial⟩) fun _ => .c func232 (gR y id hw) (hg := ⟨gy, trivial⟩) fun _ => .c func118 (iV y hw) (hg := ⟨gy, trivial⟩) fun _ => .v (aI y)
   (fun h => .rt (y, 8) ⟨bD5 h, gy, trivial⟩)
   (fun h => .s (aD y id < 0)
    (fun h2 => .rt (y, 10) ⟨(rJ h h2).symm, gy, trivial⟩)
    (fun h2 => .ex (qN h2) fun r hr => .ye hr (aD y id) (he := mO h2) fun gr => let hrl := fK hw hr
     .u (r.state = 1)
      (fun h3 => .rt (y, 12) ⟨by rw [jN h h2 hr, if_pos h3], gy, trivial⟩)
      (fun h3 => .d 5 hr fun _ => .ye hr (aD y id) (he := mO h2) fun _ => .c func316 (RunLeft_i r hrl.2.2 hrl.2.1) (hg := ⟨gr, trivial⟩) fun _ => .ie (aD y id).toNat (aD y id) (he := mO h2) <| .wt 41 <| .f 5 y.runs (gX r) (h := aJ1 gr) <|
       .rt (aU4 y (aD y id).toNat r, 0) ⟨by rw [jN h h2 hr, if_neg (by simp [h3])], gy, trivial⟩)))) aB
theorem Submit_i (y : Yard) (id : Int) (p : Plan) (hw : y.wt ≤ 1048576) (hp : p.wt ≤ 1048576) : Ct1 prog 205 [.S y, .I id, .S p] [.S (aS y id p).1, .I (aS y id p).2] :=
 .one (aS y id p) (rk := fun q => [.S q.1, .I q.2]) <| vc func205 (fun (hg : gin [Par.S y, Par.I id, Par.S p]) => let gy := hg.1.1
  let gp : p.ok := hg.2.1.1
  .c func119 (CopyYardR_i y hw) (hg := ⟨gy, trivial⟩) fun _ => .c func118 (iV y hw) (hg := ⟨gy, trivial⟩) fun _ => .v (aI y) (fun h0 => .rt (y, 8) ⟨sub_8 h0, gy, trivial⟩) (fun h0 =>
  .c func92 (cE id 1 9999) fun _ => .v (inB id 1 9999) (fun h1 => .rt (y, 5) ⟨sub_5 h0 h1, gy, trivial⟩) (fun h1 =>
  .c func232 (gR y id hw) (hg := ⟨gy, trivial⟩) fun _ => .s ((0 : Int) ≤ aD y id) (fun h2 => .rt (y, 6) ⟨sub_6 h0 h1 h2, gy, trivial⟩) (fun h2 =>
  .c func302 (gF p) (hg := ⟨gp, trivial⟩) fun _ => .u (aG p = 0) (fun h3 => .c func302 (gF p) (hg := ⟨gp, trivial⟩) fun _ => .rt (y, aG p) ⟨sub_p h0 h1 h2 h3, gy, trivial⟩) (fun h3 =>
  .c func303 (RoomFor_i y p hw) (hg := ⟨gy, gp, trivial⟩) fun _ => .v (fR y p) (fun h4 => .rt (y, 7) ⟨sub_7 h0 h1 h2 h3 h4, gy, trivial⟩) (fun h4 => let hj := sub_j gp h0 h1 h3 h4
  .c func304 (new_t hj.nw (RunNew_i id p)) (hg := ⟨gp, trivial⟩) fun hz => let gr : (bC id p).ok := hz.1.1
  .az inferInstance y.runs (bC id p) gr 96 (by have := hj.r8; unfold maxLen; omega) (by have := hj.r8; omega) <| .c func30 (iA (bC id p) 2 (by have := hj.tl; omega)) (hg := ⟨gr, trivial⟩) fun _ => .in_ func237 (aY3 8 6 7 y.now y.seq y.shelf (bC id p) (aK (bC id p).tasks 2) hj.ss (by have := hj.ln; have := hj.tk; omega) hj.sq gr) fun q hq => .zr 7 <| .rt (⟨y.now, q.1, q.2, y.runs ++ [bC id p]⟩, 0) ⟨sub_0 h0 h1 h2 h3 h4 hq, sub_g hj hq, trivial⟩)))))) aB
theorem bD4 {y out : Yard} {n k i : Nat} {r : Run} {t : Task} (hY : YardIs y) (h : RI y out n) (hn : n ≤ 900) (hr : out.runs[k]? = some r) (ht : r.tasks[i]? = some t) (h3 : t.state = 3) (hR : RunIs r) : (r.ok ∧ r.tasks.length ≤ 12) ∧ (4 ≤ out.shelf.length ∧ (out.shelf.getD (aO (bI r i).id).toNat []).length ≤ 1000000 ∧ (0 ≤ out.seq ∧ out.seq ≤ 4000000000)) ∧ (bI r i).tasks.length ≤ 1000 ∧ (bI r i).ok ∧ cC out k r (bI r i) = gV out k i := by
 have h1 := hR.small
 have h2 := (hR.fails ht h3).small
 exact ⟨⟨h1.1, h1.2.1⟩, h.chg hY aA _, by omega, h2.1, (aN6 hr ht h3).symm⟩
structure LtI (y out : Yard) (j k i : Nat) (id tr : Int) (r : Run) (t : Task) : Prop where
 p : (bN y)[j]? = some (k, i)
 row : ((bN y).map (eE y))[j]? = some [id, (i : Int), tr]
 ix : aD out id = (k : Int)
 hr : out.runs[k]? = some r
 is : RunIs r
 ht : r.tasks[i]? = some t
 ho : dK out id (i : Int) tr = decide (t.state = 3)
theorem li_at {y out : Yard} {n j : Nat} {m : Int} (hY : YardIs y) (hm : 0 ≤ m ∧ m ≤ 999999980) (h : RI (kT m y) out n) (hj : j < (bN y).length) : ∃ q : (Nat × Nat) × (Int × Int) × Run × Task, LtI y out j q.1.1 q.1.2 q.2.1.1 q.2.1.2 q.2.2.1 q.2.2.2 := by
 obtain ⟨k, i, r, t, hp, hr, ht, hrow⟩ := aI2 hj
 obtain ⟨r2, t2, h1, h2, h3, h4⟩ := h.holds (hY.at hm) hr ht
 exact ⟨((k, i), (r.id, t.try_), r2, t2), ⟨hp, hrow, bU (h.ix (hY.at hm) hr), h1, h2, h3, h4⟩⟩
theorem tick_e {y out : Yard} {j : Nat} (h0 : aI y = true) (h : ¬ 999999980 < y.now + 1) (ho : out = jU (kT (y.now + 1) y) ((bN y).take j)) (hj : ¬ j < (bN y).length) : (out, (0 : Int)) = cS y := by
 unfold cS; rw [if_neg (by rw [h0]; simp), if_neg h]
 unfold aX5
 rw [ho, take_of_length_le aA]
theorem Tick_i (y : Yard) (hw : y.wt ≤ 1048576) : Ct1 prog 209 [.S y] [.S (cS y).1, .I (cS y).2] :=
 .one (cS y) (rk := fun q => [.S q.1, .I q.2]) <| vc func209 (fun (hg : gin [Par.S y]) => let gy := hg.1.1
  .c func119 (dO y hw) (hg := ⟨gy, trivial⟩) fun _ => .c func118 (iV y hw) (hg := ⟨gy, trivial⟩) fun _ => .v (aI y)
   (fun h => .rt (y, 8) ⟨aF5 h, gy, trivial⟩)
   (fun h => let hY := fW h
    let hn := hY.now
    .p y.now 1 (h := by unfold I64; omega) <| .s (999999980 < y.now + 1)
     (fun h7 => .rt (y, 7) ⟨aF6 h h7, gy, trivial⟩)
     (fun h7 => let hln := bA7 hY
      let hml : ((bN y).map (eE y)).length = (bN y).length := length_map _
      let hm : 0 ≤ y.now + 1 ∧ y.now + 1 ≤ 999999980 := aA
      .p y.now 1 (h := by unfold I64; omega) <| .c func314 (LateOf_i y hY) (hg := ⟨gy, trivial⟩) fun _ =>
      .la (Γ := Nat × Yard) (fun g => g.1 ≤ (bN y).length ∧ g.2 = jU (kT (y.now + 1) y) ((bN y).take g.1)) (fun g => (bN y).length - g.1) (fun g => [vI 27 g.1]) (fun g => oO 7 ((bN y).map (eE y)) :: ryS g.2 6 4 5) (0, kT (y.now + 1) y) (h := ⟨Nat.zero_le _, (oW _ _).symm⟩) fun g hJ tk =>
       let hRI : RI (kT (y.now + 1) y) g.2 200 := (by rw [hJ.2]; exact (RI.list (hY.at hm) (l := bN y) (fun p hp => uF (y := y) p hp) g.1).mono aA)
       .s ((g.1 : Int) < ((bN y).map (eE y)).length)
        (fun hlt => .ex (li_at hY hm hRI (show g.1 < (bN y).length by omega)) fun q hq =>
         let row := [q.2.1.1, (q.1.2 : Int), q.2.1.2]
         let i0 : row[0]? = some q.2.1.1 := rfl
         let i1 : row[1]? = some (q.1.2 : Int) := rfl
         let i2 : row[2]? = some q.2.1.2 := rfl
         .d 7 hq.row fun _ => .i g.1 <| .y i0 fun _ => .y i1 fun _ => .y i2 fun _ => .c func120 (aE8 g.2 q.2.1.1 (q.1.2 : Int) q.2.1.2 (Nat.le_trans (hRI.wt (hY.at hm) aA) aA)) (hg := ⟨hRI.ok (hY.at hm) aA, trivial⟩) fun _ => .sb (dK g.2 q.2.1.1 (q.1.2 : Int) q.2.1.2)
          (fun hh => let h3 : q.2.2.2.state = 3 := of_decide_eq_true (hq.ho.symm.trans hh)
           let hT := bD4 (hY.at hm) hRI aA hq.hr hq.ht h3 hq.is
           .y i0 fun _ => .c func232 (gR g.2 q.2.1.1 (Nat.le_trans (hRI.wt (hY.at hm) aA) aA)) (hg := ⟨hRI.ok (hY.at hm) aA, trivial⟩) fun _ =>
           .in_ func121 (uL 6 4 5 22 g.2.now g.2.seq g.2.shelf g.2.runs q.1.1 (aD g.2 q.2.1.1) hq.ix q.2.2.1 (bI q.2.2.1 q.1.2) hq.hr aA hT.2.2.1 hT.1.1 hT.2.2.2.1 hT.2.1.1 hT.2.1.2.1 hT.2.1.2.2
            (fun d => .in_ (R' := fun _ : Unit => True) func315 (.y i1 fun _ => .cm _ func123 (aE9 q.2.2.1 (q.1.2 : Int) q.2.2.2 aA hq.ht aA) trivial fun _ _ _ _ => .rt () trivial) fun _ _ => d)) fun z hz =>
           .f 7 ((bN y).map (eE y)) row (h := trivial) <| .g 7 (qH hq.row) <| .p g.1 1 (h := by unfold I64; omega) <| .n tk (g.1 + 1, ⟨g.2.now, z.1, z.2, g.2.runs.set q.1.1 (bI q.2.2.1 q.1.2)⟩) [] (h1 := ⟨by show g.1 + 1 ≤ _; omega, by show (⟨g.2.now, z.1, z.2, _⟩ : Yard) = _; rw [aB5 hz, hT.2.2.2.2, jT hq.p, ← hJ.2]⟩) (h2 := by show (bN y).length - (g.1 + 1) < _; omega))
          (fun hh => let h3 : ¬ q.2.2.2.state = 3 := of_decide_eq_false (hq.ho.symm.trans hh)
           .f 7 ((bN y).map (eE y)) row (h := trivial) <| .g 7 (qH hq.row) <| .p g.1 1 (h := by unfold I64; omega) <| .n tk (g.1 + 1, g.2) [] (h1 := ⟨by show g.1 + 1 ≤ _; omega, by show g.2 = _; rw [jT hq.p, ← hJ.2]; exact (tS hq.hr hq.ht h3).symm⟩) (h2 := by show (bN y).length - (g.1 + 1) < _; omega)))
        (fun hge => .rt (g.2, 0) ⟨tick_e (j := g.1) h h7 hJ.2 aA, hRI.ok (hY.at hm) aA, trivial⟩)))) aB
theorem Restart_i (y : Yard) (hw : y.wt ≤ 1048576) : Ct1 prog 32 [.S y] [.S (cJ y)] :=
 .one (cJ y) (rk := fun x => [.S x]) <| vc func32 (fun (hg : gin [Par.S y]) => let gy := hg.1.1
  .c func119 (dO y hw) (hg := ⟨gy, trivial⟩) fun _ => .c func118 (iV y hw) (hg := ⟨gy, trivial⟩) fun _ => .v (aI y)
   (fun h => .rt y ⟨by unfold cJ; rw [if_neg (by rw [h]; simp)], gy, trivial⟩)
   (fun h => let hY := fW h
    let h8 := hY.runs
    .la (Γ := Nat × Yard) (fun g => g.1 ≤ y.runs.length ∧ g.2 = jE y g.1) (fun g => y.runs.length - g.1) (fun g => [vI 17 g.1]) (fun g => ryS g.2 6 4 5) (0, y) (h := ⟨Nat.zero_le _, rfl⟩) fun g hJ tk =>
     let hRK : RI y g.2 96 := (by rw [hJ.2]; exact aG8 hY hJ.1)
     .s ((g.1 : Int) < y.runs.length)
      (fun hlt => .x y.runs g.1 (h := by omega) fun r1 hr1 gr1 =>
       let hl12 := (hY.run g.1 r1 hr1).1.small.2.1
       .la (Γ := Nat × Yard) (fun q => q.1 ≤ r1.tasks.length ∧ q.2 = mG (jE y g.1) g.1 q.1) (fun q => r1.tasks.length - q.1) (fun q => [vI 25 q.1]) (fun q => ryS q.2 6 4 5) (0, g.2) (h := ⟨Nat.zero_le _, hJ.2⟩) fun q hq tq =>
        let hRI : RI y q.2 200 := (by rw [hq.2]; exact aQ4 hY hr1 hq.1)
        .s ((q.1 : Int) < r1.tasks.length)
         (fun hl2 => .x r1.tasks q.1 (h := by omega) fun t1 ht1 gt1 => .ex (p := fun z : Run × Task => q.2.runs[g.1]? = some z.1 ∧ RunIs z.1 ∧ z.1.tasks[q.1]? = some z.2 ∧ dK q.2 r1.id (q.1 : Int) t1.try_ = decide (z.2.state = 3)) (by obtain ⟨r2, t2, h1, h2, h3, h4⟩ := hRI.holds hY hr1 ht1; exact ⟨(r2, t2), h1, h2, h3, h4⟩) fun z hz =>
          .c func120 (aE8 q.2 r1.id (q.1 : Int) t1.try_ (Nat.le_trans (hRI.wt hY aA) aA)) (hg := ⟨hRI.ok hY aA, trivial⟩) fun _ => .sb (dK q.2 r1.id (q.1 : Int) t1.try_)
          (fun hh => let h3 : z.2.state = 3 := of_decide_eq_true (hz.2.2.2.symm.trans hh)
           let hT := bD4 hY hRI aA hz.1 hz.2.2.1 h3 hz.2.1
           .in_ func121 (uL 6 4 5 20 q.2.now q.2.seq q.2.shelf q.2.runs g.1 (g.1 : Int) rfl z.1 (bI z.1 q.1) hz.1 aA hT.2.2.1 hT.1.1 hT.2.2.2.1 hT.2.1.1 hT.2.1.2.1 hT.2.1.2.2
            (fun d => .in_ (R' := fun _ : Unit => True) func122 (.cm _ func123 (aE9 z.1 (q.1 : Int) z.2 aA hz.2.2.1 aA) trivial fun _ _ _ _ => .rt () trivial) fun _ _ => d)) fun u hu =>
           .p q.1 1 (h := by unfold I64; omega) <| .n tq (q.1 + 1, ⟨q.2.now, u.1, u.2, q.2.runs.set g.1 (bI z.1 q.1)⟩) [] (h1 := ⟨by show q.1 + 1 ≤ _; omega, by show (⟨q.2.now, u.1, u.2, _⟩ : Yard) = _; rw [aB5 hu, hT.2.2.2.2, hq.2]; rfl⟩) (h2 := by show r1.tasks.length - (q.1 + 1) < _; omega))
          (fun hh => let h3 : ¬ z.2.state = 3 := of_decide_eq_false (hz.2.2.2.symm.trans hh)
           .p q.1 1 (h := by unfold I64; omega) <| .n tq (q.1 + 1, q.2) [] (h1 := ⟨by show q.1 + 1 ≤ _; omega, by show q.2 = gV (mG (jE y g.1) g.1 q.1) g.1 q.1; rw [← hq.2]; exact (tS hz.1 hz.2.2.1 h3).symm⟩) (h2 := by show r1.tasks.length - (q.1 + 1) < _; omega)))
         (fun hl2 => .p g.1 1 (h := by unfold I64; omega) <| .n tk (g.1 + 1, q.2) [] (h1 := ⟨by show g.1 + 1 ≤ _; omega, by show q.2 = _; rw [hq.2]; exact aG9 hr1 aA⟩) (h2 := by show y.runs.length - (g.1 + 1) < _; omega)))
      (fun hge => .rt g.2 ⟨by unfold cJ; rw [if_pos h, hJ.2]; congr 1; omega, hRK.ok hY aA, trivial⟩))) aB
theorem uT {g : Run → Nat → Run} {y : Yard} {id task try_ : Int} {k : Nat} {r : Run} {q : Int × List (List Entry)} (h : cM y id task try_ = 0) (hk : bF y id = some k) (hr : y.runs[k]? = some r) (hq : pO (g r task.toNat) (dD r (g r task.toNat)) y.seq y.shelf q) : ((⟨y.now, q.1, q.2, y.runs.set k (g r task.toNat)⟩, cM y id task try_) : Yard × Int) = (sR g y id task try_, cM y id task try_) := by
 have hq : q = _ := hq
 subst hq
 rw [lE h hk hr]
 rfl
theorem aN9 {g : Run → Nat → Run} {y : Yard} {id task try_ : Int} {k : Nat} {r : Run} {q : Int × List (List Entry)} (hY : YardIs y) (h : cM y id task try_ = 0) (hk : bF y id = some k) (hr : y.runs[k]? = some r) (hl : (g r task.toNat).tasks.length ≤ 1000) (hq : pO (g r task.toNat) (dD r (g r task.toNat)) y.seq y.shelf q) : (⟨y.now, q.1, q.2, y.runs.set k (g r task.toNat)⟩ : Yard).ok := by
 have := congrArg Prod.fst (uT h hk hr hq)
 simp only at this
 rw [this, lE h hk hr]
 exact pL hY hl
theorem aN8 {g : Run → Nat → Run} {y : Yard} {id task try_ : Int} (h : ¬ cM y id task try_ = 0) : (y, cM y id task try_) = (sR g y id task try_, cM y id task try_) := by rw [lD h]
structure AskJ (y : Yard) (id task : Int) (q : Nat × Run × Task) : Prop where
 Y : YardIs y
 ix : bF y id = some q.1
 at_ : y.runs[q.1]? = some q.2.1
 R : RunIs q.2.1
 pos : 0 ≤ task
 tk : q.2.1.tasks[task.toNat]? = some q.2.2
 run : q.2.2.state = 3
theorem bD9 {y : Yard} {id task try_ : Int} (h : cM y id task try_ = 0) : ∃ q, AskJ y id task q := by
 obtain ⟨hY, k, r, t, h1, h2, h3, h4, h5, h6⟩ := xJ h
 exact ⟨(k, r, t), hY, h1, h2, h3, h4, h5, h6⟩
theorem AskJ.small {y : Yard} {id task : Int} {q : Nat × Run × Task} (h : AskJ y id task q) : q.2.1.ok ∧ q.2.1.tasks.length ≤ 12 ∧ 4 ≤ y.shelf.length ∧ (y.shelf.getD (aO q.2.1.id).toNat []).length ≤ 1000000 ∧ (0 ≤ y.seq ∧ y.seq ≤ 4000000000) := by
 have h1 := h.R.small
 have h2 := (RI.start h.Y).chg h.Y (Nat.zero_le _) q.2.1.id
 exact ⟨h1.1, h1.2.1, h2⟩
theorem Complete_i (y : Yard) (id task try_ : Int) (hw : y.wt ≤ 1048576) : Ct1 prog 207 [.S y, .I id, .I task, .I try_] [.S (dI y id task try_), .I (cM y id task try_)] :=
 .one (dI y id task try_, cM y id task try_) (rk := fun q => [.S q.1, .I q.2]) <| vc func207 (fun (hg : gin [Par.S y, Par.I id, Par.I task, Par.I try_]) => let gy := hg.1.1
  .c func119 (dO y hw) (hg := ⟨gy, trivial⟩) fun _ => .c func310 (bE4 y id task try_ hw) (hg := ⟨gy, trivial⟩) fun _ => .s (cM y id task try_ = 0)
   (fun h => .ex (bD9 h) fun z hz => let hs := hz.small
    let hk := kR z.2.1 task.toNat
    .c func232 (gR y id hw) (hg := ⟨gy, trivial⟩) fun _ => .in_ func121 (uL 7 5 6 14 y.now y.seq y.shelf y.runs z.1 (aD y id) (bU hz.ix) z.2.1 (fT z.2.1 task.toNat) hz.at_ aA (by rw [hk.2.2.1]; omega) hs.1 (doneR_ok hs.1 _) hs.2.2.1 (by rw [hk.1]; exact hs.2.2.2.1) hs.2.2.2.2
     (fun d => .in_ (R' := fun _ : Unit => True) func311 (.cm _ func312 (Done_p z.2.1 task z.2.2 hz.pos hz.tk hz.R) trivial fun _ _ _ _ => .rt () trivial) fun _ _ => d)) fun q hq =>
      .rt (⟨y.now, q.1, q.2, y.runs.set z.1 (fT z.2.1 task.toNat)⟩, cM y id task try_) ⟨uT h hz.ix hz.at_ hq, aN9 hz.Y h hz.ix hz.at_ (by rw [hk.2.2.1]; omega) hq, trivial⟩)
   (fun h => .rt (y, cM y id task try_) ⟨aN8 h, gy, trivial⟩)) aB
theorem Fail_i (y : Yard) (id task try_ : Int) (hw : y.wt ≤ 1048576) : Ct1 prog 208 [.S y, .I id, .I task, .I try_] [.S (kP y id task try_), .I (cM y id task try_)] :=
 .one (kP y id task try_, cM y id task try_) (rk := fun q => [.S q.1, .I q.2]) <| vc func208 (fun (hg : gin [Par.S y, Par.I id, Par.I task, Par.I try_]) => let gy := hg.1.1
  .c func119 (dO y hw) (hg := ⟨gy, trivial⟩) fun _ => .c func310 (bE4 y id task try_ hw) (hg := ⟨gy, trivial⟩) fun _ => .s (cM y id task try_ = 0)
   (fun h => .ex (bD9 h) fun z hz => let hs := hz.small
    let hk := lY z.2.1 task.toNat
    .c func232 (gR y id hw) (hg := ⟨gy, trivial⟩) fun _ => .in_ func121 (uL 7 5 6 14 y.now y.seq y.shelf y.runs z.1 (aD y id) (bU hz.ix) z.2.1 (bI z.2.1 task.toNat) hz.at_ aA (by rw [hk.2.2.1]; omega) hs.1 (failsR_ok hs.1 _) hs.2.2.1 (by rw [hk.1]; exact hs.2.2.2.1) hs.2.2.2.2
     (fun d => .in_ (R' := fun _ : Unit => True) func313 (.cm _ func123 (aE9 z.2.1 task z.2.2 hz.pos hz.tk aA) trivial fun _ _ _ _ => .rt () trivial) fun _ _ => d)) fun q hq =>
      .rt (⟨y.now, q.1, q.2, y.runs.set z.1 (bI z.2.1 task.toNat)⟩, cM y id task try_) ⟨uT h hz.ix hz.at_ hq, aN9 hz.Y h hz.ix hz.at_ (by rw [hk.2.2.1]; omega) hq, trivial⟩)
   (fun h => .rt (y, cM y id task try_) ⟨aN8 h, gy, trivial⟩)) aB
theorem pl_robI {y out : Yard} {h : Nat} {o : Int} (hP : PI y out h) (hh : h < 4) (ho : 0 ≤ o ∧ o ≤ 3 ∧ o ≠ (h : Int)) : ∃ q : List Entry × List Entry, (aP out o).shelf[o.toNat]? = some q.1 ∧ (aP out o).shelf[h]? = some q.2 ∧ ((aP out o).shelf.set h (cL q.2 (q.1.take (bS q.1))))[o.toNat]? = some q.1 ∧ q.1.length ≤ 80 ∧ q.2.length ≤ 80 ∧
  (⟨(aP out o).now, (aP out o).seq, ((aP out o).shelf.set h (cL q.2 (q.1.take (bS q.1)))).set o.toNat (q.1.drop (bS q.1)), (aP out o).runs⟩ : Yard) = aC3 (aP out o) h o.toNat := by
 have hs := hP.sw (o := o) aA
 have hne : h ≠ o.toNat := by omega
 exact ⟨((aP out o).shelf.getD o.toNat [], (aP out o).shelf.getD h []), getD_some aA, getD_some aA, by rw [getElem?_set_ne hne]; exact getD_some aA, hs.2 _ aA, hs.2 _ hh, rfl⟩
theorem Poll_i (y : Yard) (w d : Int) (hw : y.wt ≤ 1048576) (hd : I64 d) : Ct1 prog 206 [.S y, .I w, .I d] [.S (eH y w d).1, .S (eH y w d).2] :=
 .one (eH y w d) (rk := fun q => [.S q.1, .S q.2]) <| vc func206 (fun (hg : gin [Par.S y, Par.I w, Par.I d]) => let gy := hg.1.1
  .c func118 (iV y hw) (hg := ⟨gy, trivial⟩) fun _ => .v (aI y)
   (fun h => .c func119 (dO y hw) (hg := ⟨gy, trivial⟩) fun _ => .rt (y, ⟨8, 0, 0, 0⟩) ⟨pl_8 h, gy, yT 8 aA, trivial⟩)
   (fun hy => let hY := fW hy
    .c func92 (cE w 0 99) fun _ => .v (inB w 0 99)
    (fun h => .c func119 (dO y hw) (hg := ⟨gy, trivial⟩) fun _ => .rt (y, ⟨5, 0, 0, 0⟩) ⟨pl_5 hy h, gy, yT 5 aA, trivial⟩)
    (fun hin => let hwk := inB_iff.1 hin
     .q w 4 (h := by omega) <| .c func305 (aV2 y (w % 4) hw) (hg := ⟨gy, trivial⟩) fun _ => .c func306 (Victims_i (w % 4) d aA hd) fun _ =>
     let fin : ∀ (m : Nat) (out : Yard), out = cZ (w % 4).toNat (aP y (w % 4)) (aZ (w % 4) d) → PI y out (w % 4).toNat → out.ok → D prog (fun q : Yard × Reply => q = eH y w d ∧ rgd [Rk.S q.1, Rk.S q.2]) := fun m out ho hP go =>
      let hl := uD hP (show (w % 4).toNat < 4 by omega)
      let h80 := hP.each (w % 4).toNat aA
      .ye hl (w % 4) (he := kB w) fun _ => .c func309 (TakeEntry_i (out.shelf.getD (w % 4).toNat []) aA) fun gt => .v (bE (out.shelf.getD (w % 4).toNat [])).2.2
       (fun hn => .rt (out, ⟨9, 0, 0, 0⟩) ⟨by rw [← pl_0 hy hin ho]; exact (wL (aX4 hn)).symm, go, yT 9 aA, trivial⟩)
       (fun hn => let hcs := aO2 hn
        .ex (pl_at hY hP (show (bE (out.shelf.getD (w % 4).toNat [])).1 ∈ (out.shelf.getD (w % 4).toNat []) by rw [hcs]; exact mem_cons_self)) fun q hq =>
        let hnow : 0 ≤ out.now ∧ out.now ≤ 999999980 := (by rw [hP.now]; exact hY.now)
        let hrl : (bE (out.shelf.getD (w % 4).toNat [])).2.1.length ≤ 80 := (by have h_ := h80; rw [hcs] at h_; simp only [length_cons] at h_; omega)
        let htr := hq.is.tries hq.ht
        let h1 : I64 (q.2.2.try_ + 1) := (by unfold I64; omega)
        let h2 : I64 (out.now + q.2.1.plan.wait) := (by unfold I64; omega)
        .d 5 hl fun _ => .ie (w % 4).toNat (w % 4) (he := kB w) <| .w1 <| .f 5 out.shelf (bE (out.shelf.getD (w % 4).toNat [])).2.1 (h := trivial) <|
        .c func232 (gR ⟨out.now, out.seq, out.shelf.set (w % 4).toNat (bE (out.shelf.getD (w % 4).toNat [])).2.1, out.runs⟩ (bE (out.shelf.getD (w % 4).toNat [])).1.run (Nat.le_trans (hP.wtS hY hrl) aA)) (hg := ⟨go, trivial⟩) fun _ =>
        .ye hq.hr (aD ⟨out.now, out.seq, out.shelf.set (w % 4).toNat (bE (out.shelf.getD (w % 4).toNat [])).2.1, out.runs⟩ (bE (out.shelf.getD (w % 4).toNat [])).1.run) (he := bU hq.ix) fun _ => .d 6 hq.hr fun gr => .lq 17 6 <| .d (m + 11) hq.ht fun gu => .ie (bE (out.shelf.getD (w % 4).toNat [])).1.task.toNat (bE (out.shelf.getD (w % 4).toNat [])).1.task (he := by have := hq.h0; omega) <|
        .p q.2.2.try_ 1 (h := h1) <| .p out.now q.2.1.plan.wait (h := h2) <| .wt 999 <| .f (m + 11) q.2.1.tasks ⟨3, q.2.2.need, q.2.2.try_ + 1, out.now + q.2.1.plan.wait⟩ (h := st_ok gu h1 h2) <| .f 6 out.runs (fY q.2.1 (bE (out.shelf.getD (w % 4).toNat [])).1.task.toNat q.2.2 out.now) (h := gr) <|
        .rt (⟨out.now, out.seq, out.shelf.set (w % 4).toNat (bE (out.shelf.getD (w % 4).toNat [])).2.1, out.runs.set q.1 (fY q.2.1 (bE (out.shelf.getD (w % 4).toNat [])).1.task.toNat q.2.2 out.now)⟩, ⟨0, (bE (out.shelf.getD (w % 4).toNat [])).1.run, (bE (out.shelf.getD (w % 4).toNat [])).1.task, q.2.2.try_ + 1⟩)
         ⟨by rw [← pl_0 hy hin ho]; exact (zM hcs hq.ix hq.hr hq.ht).symm, go, aL6 (by unfold I64; omega) gt.1.1.2.2.1 gt.1.1.2.2.2 h1, trivial⟩)
     .la (Γ := Nat × Yard) (fun g => g.1 ≤ 3 ∧ g.2 = cZ (w % 4).toNat (aP y (w % 4)) ((aZ (w % 4) d).take g.1)) (fun g => 3 - g.1) (fun g => [vI 42 g.1]) (fun g => ryS g.2 7 5 6) (0, aP y (w % 4)) (h := ⟨Nat.zero_le _, (tA _ _ _).symm⟩) fun g hJ tk =>
      let hP : PI y g.2 (w % 4).toNat := (by rw [hJ.2]; exact aQ7 hY w d g.1)
      let hl := uD hP (show (w % 4).toNat < 4 by omega)
      let go : g.2.ok := hP.ok hY
      .s ((g.1 : Int) < (aZ (w % 4) d).length)
       (fun hlt => .ex (p := fun o => (aZ (w % 4) d)[g.1]? = some o) ⟨_, getElem?_eq_getElem (show g.1 < (aZ (w % 4) d).length by omega)⟩ fun o hk =>
        let hor := kG (home := w % 4) (draw := d) aA o (mem_of_getElem? hk)
        .ex (pl_robI hP (show (w % 4).toNat < 4 by omega) (show 0 ≤ o ∧ o ≤ 3 ∧ o ≠ (((w % 4).toNat : Nat) : Int) by omega)) fun q hq =>
        .y hk fun _ => .ye hl (w % 4) (he := kB w) fun _ => .s ((0 : Int) < ((g.2.shelf.getD (w % 4).toNat []).length : Int))
        (fun hem => fin 12 g.2 (by rw [hJ.2]; exact (vL (by rw [← hJ.2]; exact aR4 aA)).symm) hP go)
        (fun hem => .c func305 (aV2 g.2 o (Nat.le_trans (hP.wt hY) aA)) (hg := ⟨go, trivial⟩) fun gs =>
         .ye hq.1 o (he := by omega) fun _ => .c func307 (HalfOf_i q.1 (by have := hq.2.2.2.1; omega)) fun _ =>
         .d 12 hq.2.1 fun _ => .ie (w % 4).toNat (w % 4) (he := kB w) <| .c func308 (Merged_i q.2 (q.1.take (bS q.1)) (by have := hq.2.2.2.2.1; omega) (by have := hq.2.2.2.1; rw [length_take]; omega)) fun _ => .ie (w % 4).toNat (w % 4) (he := kB w) <| .wt 75 <| .f 12 (aP g.2 o).shelf (cL q.2 (q.1.take (bS q.1))) (h := trivial) <|
         .d 12 hq.2.2.1 fun _ => .ie o.toNat o (he := by omega) <| .w1 <| .f 12 ((aP g.2 o).shelf.set (w % 4).toNat (cL q.2 (q.1.take (bS q.1)))) (q.1.drop (bS q.1)) (h := trivial) <|
         .p g.1 1 (h := by unfold I64; omega) <| .n tk (g.1 + 1, ⟨(aP g.2 o).now, (aP g.2 o).seq, ((aP g.2 o).shelf.set (w % 4).toNat (cL q.2 (q.1.take (bS q.1)))).set o.toNat (q.1.drop (bS q.1)), (aP g.2 o).runs⟩) [(5, 12), (6, 13)]
          (h1 := ⟨by show g.1 + 1 ≤ 3; have : (aZ (w % 4) d).length = 3 := rfl; omega, by rw [yQ hk (by rw [← hJ.2]; exact nil0 aA), ← hJ.2]; exact hq.2.2.2.2.2⟩) (h2 := by show 3 - (g.1 + 1) < _; have : (aZ (w % 4) d).length = 3 := rfl; omega)))
       (fun hlt => fin 9 g.2 (by rw [hJ.2]; exact vM (by have : (aZ (w % 4) d).length = 3 := rfl; omega)) hP go)))) aB
theorem Do_i (y : Yard) (d : Deed) (hw : y.wt ≤ 1048576) : Ct1 prog 106 [.S y, .S d] [.S (doD y d).1, .S (doD y d).2] :=
 .one (doD y d) (rk := fun q => [.S q.1, .S q.2]) <| vc func106 (fun (hg : gin [Par.S y, Par.S d]) => let gy := hg.1.1
  let gd : d.ok := hg.2.1.1
  .c func151 (DeedOk_i d) (hg := ⟨gd, trivial⟩) fun _ => .v (aX d)
   (fun h => .c func119 (dO y hw) (hg := ⟨gy, trivial⟩) fun _ => .rt (y, cQ 5) ⟨do_0 h, gy, dL aA, trivial⟩)
   (fun h => let hk := aU1 h
    .s (d.kind = 1)
    (fun h1 => .c func205 (Submit_i y d.run d.plan hw (dd_wt h)) (hg := ⟨gy, gd.2.2.1, trivial⟩) fun hz => .rt ((aS y d.run d.plan).1, cQ (aS y d.run d.plan).2) ⟨do_1 h h1, hz.1.1, dL (oH y d.run d.plan), trivial⟩)
    (fun h1 => .s (d.kind = 2)
    (fun h2 => .c func206 (Poll_i y d.worker d.draw hw gd.2.2.2.2.2.2) (hg := ⟨gy, trivial⟩) fun hz => .rt (eH y d.worker d.draw) ⟨do_2 h h2, hz.1.1, hz.2.1.1, trivial⟩)
    (fun h2 => .s (d.kind = 3)
    (fun h3 => .c func207 (Complete_i y d.run d.task d.try_ hw) (hg := ⟨gy, trivial⟩) fun hz => .rt (dI y d.run d.task d.try_, cQ (cM y d.run d.task d.try_)) ⟨do_3 h h3, hz.1.1, aE4 _ _ _ _, trivial⟩)
    (fun h3 => .s (d.kind = 4)
    (fun h4 => .c func208 (Fail_i y d.run d.task d.try_ hw) (hg := ⟨gy, trivial⟩) fun hz => .rt (kP y d.run d.task d.try_, cQ (cM y d.run d.task d.try_)) ⟨do_4 h h4, hz.1.1, aE4 _ _ _ _, trivial⟩)
    (fun h4 => .s (d.kind = 5)
    (fun h5 => .c func209 (Tick_i y hw) (hg := ⟨gy, trivial⟩) fun hz => .rt ((cS y).1, cQ (cS y).2) ⟨do_5 h h5, hz.1.1, dL (uV y), trivial⟩)
    (fun h5 => .s (d.kind = 6)
    (fun h6 => .c func210 (Cancel_i y d.run hw) (hg := ⟨gy, trivial⟩) fun hz => .rt ((bA y d.run).1, cQ (bA y d.run).2) ⟨do_6 h h6, hz.1.1, dL (oS y d.run), trivial⟩)
    (fun h6 => .s (d.kind = 7)
    (fun h7 => .c func211 (Forget_i y d.run gd.2.1 hw) (hg := ⟨gy, trivial⟩) fun hz => .rt ((aR y d.run).1, cQ (aR y d.run).2) ⟨do_7 h h7, hz.1.1, dL (oN y d.run), trivial⟩)
    (fun h7 => .c func32 (Restart_i y hw) (hg := ⟨gy, trivial⟩) fun hz => .c func118 (iV y hw) (hg := ⟨gy, trivial⟩) fun _ => .v (aI y)
     (fun h9 => .rt (cJ y, cQ 8) ⟨do_8 h aA 8 (by rw [h9]; rfl), hz.1.1, dL aA, trivial⟩)
     (fun h9 => .rt (cJ y, cQ 0) ⟨do_8 h aA 0 (by rw [h9]; rfl), hz.1.1, dL aA, trivial⟩)))))))))) aB
theorem EqualEntry_i (xs ys : List Entry) : Ct1 prog 269 [.L xs, .L ys] [.B (eqB xs ys)] :=
 .one (eqB xs ys) (rk := fun b => [.B b]) <| vc func269 (fun (hg : gin [Par.L xs, Par.L ys]) => let h1 := hg.1
  .u ((xs.length : Int) = ys.length)
   (fun h => .rt false ⟨nS h, trivial⟩)
   (fun h => .l (Γ := Nat) (fun k => k ≤ xs.length ∧ xs.take k = ys.take k) (fun k => xs.length - k) [0, 1, 12] [] [0, 1] (fun k => [vI 13 k]) (fun k => []) 0 (h := ⟨Nat.zero_le _, rfl⟩) fun k hk t => .s ((k : Int) < xs.length)
    (fun h2 => .x xs k (h := by omega) fun e he ge => .x ys k (h := by omega) fun f hf gf => .qe (aG3 e f) aB <| .v (eqB e f)
     (fun h3 => .rt false ⟨mC he hf h3, trivial⟩)
     (fun h3 => .p k 1 (h := by unfold I64; omega) <| .n t (k + 1) [] (h1 := ⟨by omega, lC hk.2 he hf h3⟩)))
    (fun h2 => .rt true ⟨rC h hk.2 h2, trivial⟩))) aB
theorem EqualTask_i (xs ys : List Task) : Ct1 prog 365 [.L xs, .L ys] [.B (eqB xs ys)] :=
 .one (eqB xs ys) (rk := fun b => [.B b]) <| vc func365 (fun (hg : gin [Par.L xs, Par.L ys]) => let h1 := hg.1
  .u ((xs.length : Int) = ys.length)
   (fun h => .rt false ⟨nS h, trivial⟩)
   (fun h => .l (Γ := Nat) (fun k => k ≤ xs.length ∧ xs.take k = ys.take k) (fun k => xs.length - k) [0, 1, 12] [] [0, 1] (fun k => [vI 13 k]) (fun k => []) 0 (h := ⟨Nat.zero_le _, rfl⟩) fun k hk t => .s ((k : Int) < xs.length)
    (fun h2 => .x xs k (h := by omega) fun e he ge => .x ys k (h := by omega) fun f hf gf => .qe (aQ0 e f) aB <| .v (eqB e f)
     (fun h3 => .rt false ⟨mC he hf h3, trivial⟩)
     (fun h3 => .p k 1 (h := by unfold I64; omega) <| .n t (k + 1) [] (h1 := ⟨by omega, lC hk.2 he hf h3⟩)))
    (fun h2 => .rt true ⟨rC h hk.2 h2, trivial⟩))) aB
theorem Run_ext2 {x y : Run} (h0 : x.id = y.id) (h1 : eqB x.plan y.plan = true) (h2 : x.state = y.state) : eqB x.tasks y.tasks = eqB x y := bB9 (aE6 h0 (eqB_iff.1 h1) h2) (fun e => by rw [e])
theorem aQ1 {x y : Run} (h : eqB x.plan y.plan = false) : false = eqB x y := (kQ fun e => by rw [e, dQ rfl] at h; cases h).symm
theorem SameRun_i (x y : Run) : Ct1 prog 271 [.S x, .S y] [.B (eqB x y)] :=
 .one (eqB x y) (rk := fun b => [.B b]) <| vc func271 (fun (hg : gin [Par.S x, Par.S y]) =>
  .s (x.id = y.id) (fun h0 => .c func364 (xM x.plan y.plan) (hg := ⟨hg.1.1.2.1, hg.2.1.1.2.1, trivial⟩) fun _ => .sb (eqB x.plan y.plan)
   (fun h1 => .s (x.state = y.state)
    (fun h2 => .c func365 (EqualTask_i x.tasks y.tasks) fun _ => .rt (eqB x.tasks y.tasks) ⟨Run_ext2 h0 h1 h2, trivial⟩)
    (fun h => .rt false ⟨fS h (fun e => by rw [e]), trivial⟩))
   (fun h => .rt false ⟨aQ1 h, trivial⟩)) (fun h => .rt false ⟨fS h (fun e => by rw [e]), trivial⟩)) aB
theorem EqualRuns_i (xs ys : List (Run)) : Ct1 prog 270 [.L xs, .L ys, .v (.func (.func 271) #[] #[])] [.B (eqB xs ys)] :=
 .one (eqB xs ys) (rk := fun b => [.B b]) <| vc func270 (fun (hg : gin [Par.L xs, Par.L ys, Par.v (.func (.func 271) #[] #[])]) => let h1 := hg.1
  .u ((xs.length : Int) = ys.length)
   (fun h => .rt false ⟨nS h, trivial⟩)
   (fun h => .l (Γ := Nat) (fun k => k ≤ xs.length ∧ xs.take k = ys.take k) (fun k => xs.length - k) [1, 2, 15, 16] [] [0, 1] (fun k => [vI 17 k]) (fun k => []) 0 (h := ⟨Nat.zero_le _, rfl⟩) fun k hk t => .s ((k : Int) < xs.length)
    (fun h2 => .x xs k (h := by omega) fun e he ge => .x ys k (h := by omega) fun f hf gf => .c func271 (SameRun_i e f) (hg := ⟨ge, gf, trivial⟩) <| fun _ => .v (eqB e f)
     (fun h3 => .rt false ⟨mC he hf h3, trivial⟩)
     (fun h3 => .p k 1 (h := by unfold I64; omega) <| .n t (k + 1) [] (h1 := ⟨by omega, lC hk.2 he hf h3⟩)))
    (fun h2 => .rt true ⟨rC h hk.2 h2, trivial⟩))) aB
theorem EqualShelves_i (xs ys : List (List Entry)) : Ct1 prog 268 [.L xs, .L ys, .v (.func (.func 269) #[] #[])] [.B (eqB xs ys)] :=
 .one (eqB xs ys) (rk := fun b => [.B b]) <| vc func268 (fun (hg : gin [Par.L xs, Par.L ys, Par.v (.func (.func 269) #[] #[])]) => let h1 := hg.1
  .u ((xs.length : Int) = ys.length)
   (fun h => .rt false ⟨nS h, trivial⟩)
   (fun h => .l (Γ := Nat) (fun k => k ≤ xs.length ∧ xs.take k = ys.take k) (fun k => xs.length - k) [1, 2, 15, 16] [] [0, 1] (fun k => [vI 17 k]) (fun k => []) 0 (h := ⟨Nat.zero_le _, rfl⟩) fun k hk t => .s ((k : Int) < xs.length)
    (fun h2 => .x xs k (h := by omega) fun e he ge => .x ys k (h := by omega) fun f hf gf => .c func269 (EqualEntry_i e f) <| fun _ => .v (eqB e f)
     (fun h3 => .rt false ⟨mC he hf h3, trivial⟩)
     (fun h3 => .p k 1 (h := by unfold I64; omega) <| .n t (k + 1) [] (h1 := ⟨by omega, lC hk.2 he hf h3⟩)))
    (fun h2 => .rt true ⟨rC h hk.2 h2, trivial⟩))) aB
theorem Yard_ext2 {x y : Yard} (h0 : x.now = y.now) (h1 : x.seq = y.seq) (h2 : eqB x.shelf y.shelf = true) : eqB x.runs y.runs = eqB x y := bB9 (xL h0 h1 (eqB_iff.1 h2)) (fun e => by rw [e])
theorem yard_nes {x y : Yard} (h : eqB x.shelf y.shelf = false) : false = eqB x y := (kQ fun e => by rw [e, dQ rfl] at h; cases h).symm
theorem SameYard_i (x y : Yard) : Ct1 prog 159 [.S x, .S y] [.B (eqB x y)] :=
 .one (eqB x y) (rk := fun b => [.B b]) <| vc func159 (fun (hg : gin [Par.S x, Par.S y]) =>
  .s (x.now = y.now) (fun h0 => .s (x.seq = y.seq) (fun h1 => .c func268 (EqualShelves_i x.shelf y.shelf) fun _ => .sb (eqB x.shelf y.shelf)
   (fun h2 => .c func270 (EqualRuns_i x.runs y.runs) fun _ => .rt (eqB x.runs y.runs) ⟨Yard_ext2 h0 h1 h2, trivial⟩)
   (fun h => .rt false ⟨yard_nes h, trivial⟩)) (fun h => .rt false ⟨fS h (fun e => by rw [e]), trivial⟩)) (fun h => .rt false ⟨fS h (fun e => by rw [e]), trivial⟩)) aB
theorem plan_nel {x y : Plan} (h : ¬ (x.edges.length : Int) = y.edges.length) : false = eqB x y := fS h (fun e => by rw [e])
theorem plan_nee {x y : Plan} (h : false = eqB x.edges y.edges) : false = eqB x y := (kQ fun e => by rw [e, dQ rfl] at h; cases h).symm
theorem plan_yes {x y : Plan} (h0 : x.prio = y.prio) (h1 : x.most = y.most) (h2 : x.wait = y.wait) (h3 : x.tasks = y.tasks) (h : x.edges = y.edges) : true = eqB x y := (dQ (xP h0 h1 h2 h3 h)).symm
theorem Same_s (x y : Plan) : Ct1 prog 266 [.S x, .S y] [.B (eqB x y)] :=
 .one (eqB x y) (rk := fun b => [.B b]) <| vc func266 (fun (hg : gin [Par.S x, Par.S y]) => let hle := hg.1.2.1
  .u (x.prio = y.prio) (fun h => .rt false ⟨fS h (fun e => by rw [e]), trivial⟩) (fun h0 => .u (x.most = y.most) (fun h => .rt false ⟨fS h (fun e => by rw [e]), trivial⟩) (fun h1 => .u (x.wait = y.wait) (fun h => .rt false ⟨fS h (fun e => by rw [e]), trivial⟩) (fun h2 => .u (x.tasks = y.tasks) (fun h => .rt false ⟨fS h (fun e => by rw [e]), trivial⟩) (fun h3 => .u ((x.edges.length : Int) = y.edges.length) (fun h => .rt false ⟨plan_nel h, trivial⟩) (fun h4 =>
   .l (Γ := Nat) (fun k => k ≤ x.edges.length ∧ x.edges.take k = y.edges.take k) (fun k => x.edges.length - k) [2, 3] [2, 3] [0, 1] (fun k => [vI 5 k]) (fun k => []) 0 (h := ⟨Nat.zero_le _, rfl⟩) fun k hk t => .s ((k : Int) < x.edges.length)
    (fun h5 => .x x.edges k (h := by omega) fun e he ge => .x y.edges k (h := by omega) fun f hf gf => .qe (uA e f) aB <| .v (eqB e f)
     (fun h6 => .rt false ⟨plan_nee (mC he hf h6), trivial⟩)
     (fun h6 => .p k 1 (h := by unfold I64; omega) <| .n t (k + 1) [] (h1 := ⟨by omega, lC hk.2 he hf h6⟩)))
    (fun h5 => .rt true ⟨plan_yes h0 h1 h2 h3 (nT h4 hk.2 h5), trivial⟩))))))) aB
theorem y_nes {x y : Yard} (h : false = eqB x.shelf y.shelf) : false = eqB x y := (kQ fun e => by rw [e, dQ rfl] at h; cases h).symm
theorem aF1 {x y : Yard} (h : false = eqB x.runs y.runs) : false = eqB x y := (kQ fun e => by rw [e, dQ rfl] at h; cases h).symm
theorem mB {α : Type} [DecidableEq α] {xs ys : List α} {k : Nat} {x y : α} (hx : xs[k]? = some x) (hy : ys[k]? = some y) (h : false = eqB x y) : false = eqB xs ys := mC hx hy h.symm
theorem bC0 {α : Type} {xs ys : List α} {k : Nat} (hl : (xs.length : Int) = ys.length) (h : (k : Int) < xs.length) : ∃ q : α × α, xs[k]? = some q.1 ∧ ys[k]? = some q.2 := ⟨(xs[k]'(by omega), ys[k]'(by omega)), getElem?_eq_getElem _, getElem?_eq_getElem _⟩
theorem run_net {x y : Run} (h : false = eqB x.tasks y.tasks) : false = eqB x y := (kQ fun e => by rw [e, dQ rfl] at h; cases h).symm
theorem SameYard_s (x y : Yard) (hw : x.wt ≤ 1048576) : Ct1 prog 155 [.S x, .S y] [.B (eqB x y)] :=
 .one (eqB x y) (rk := fun b => [.B b]) <| vc func155 (fun (hg : gin [Par.S x, Par.S y]) => let hb := cV x hw
  let hls := hg.1.2
  .u (x.now = y.now) (fun h => .rt false ⟨fS h (fun e => by rw [e]), trivial⟩) (fun h0 => .u (x.seq = y.seq) (fun h => .rt false ⟨fS h (fun e => by rw [e]), trivial⟩) (fun h1 => .u ((x.shelf.length : Int) = y.shelf.length) (fun h => .rt false ⟨fS h (fun e => by rw [e]), trivial⟩) (fun h2 => .u ((x.runs.length : Int) = y.runs.length) (fun h => .rt false ⟨fS h (fun e => by rw [e]), trivial⟩) (fun h3 =>
   .l (Γ := Nat) (fun k => k ≤ x.shelf.length ∧ x.shelf.take k = y.shelf.take k) (fun k => x.shelf.length - k) [2, 3] [4, 5] [0, 1, 2, 3] (fun k => [vI 5 k]) (fun k => []) 0 (h := ⟨Nat.zero_le _, rfl⟩) fun k hk t => .s ((k : Int) < x.shelf.length)
    (fun h4 => .ex (bC0 h2 h4) fun q hq => .y hq.1 fun _ => .y hq.2 fun _ => .u ((q.1.length : Int) = q.2.length)
     (fun h => .rt false ⟨y_nes (mB hq.1 hq.2 (nS h)), trivial⟩)
     (fun h5 => let hll := gC hq.1 hw
      .l (Γ := Nat) (fun i => i ≤ q.1.length ∧ q.1.take i = q.2.take i) (fun i => q.1.length - i) [2, 3, 5] [4, 5] [0, 1, 2, 3] (fun i => [vI 6 i]) (fun i => []) 0 (h := ⟨Nat.zero_le _, rfl⟩) fun i hi ti => .y hq.1 fun _ => .s ((i : Int) < q.1.length)
      (fun h6 => .y hq.1 fun _ => .x q.1 i (h := by omega) fun e he ge => .y hq.2 fun _ => .x q.2 i (h := by omega) fun f hf gf => .qe (aG3 e f) aB <| .v (eqB e f)
       (fun h7 => .rt false ⟨y_nes (mB hq.1 hq.2 (mC he hf h7)), trivial⟩)
       (fun h7 => .p i 1 (h := by unfold I64; omega) <| .n ti (i + 1) [] (h1 := ⟨by omega, lC hi.2 he hf h7⟩)))
      (fun h6 => .p k 1 (h := by unfold I64; omega) <| .n t (k + 1) [] (h1 := ⟨by omega, lC hk.2 hq.1 hq.2 (dQ (nT h5 hi.2 h6))⟩))))
    (fun h4 => let hsh : x.shelf = y.shelf := nT h2 hk.2 h4
     .l (Γ := Nat) (fun k => k ≤ x.runs.length ∧ x.runs.take k = y.runs.take k) (fun k => x.runs.length - k) [2, 3] [4, 5] [0, 1, 2, 3] (fun k => [vI 7 k]) (fun k => []) 0 (h := ⟨Nat.zero_le _, rfl⟩) fun k hk t => .s ((k : Int) < x.runs.length)
     (fun h5 => .ex (bC0 h3 h5) fun q hq => .y hq.1 fun g1 => .y hq.2 fun g2 => let hrl := fK hw hq.1
      .u (q.1.id = q.2.id) (fun h => .rt false ⟨aF1 (mB hq.1 hq.2 (fS h (fun e => by rw [e]))), trivial⟩) (fun e0 => .u (q.1.state = q.2.state) (fun h => .rt false ⟨aF1 (mB hq.1 hq.2 (fS h (fun e => by rw [e]))), trivial⟩) (fun e1 =>
       .c func266 (Same_s q.1.plan q.2.plan) (hg := ⟨(show Run.ok q.1 from g1).2.1, (show Run.ok q.2 from g2).2.1, trivial⟩) fun _ => .v (eqB q.1.plan q.2.plan) (fun h => .rt false ⟨aF1 (mB hq.1 hq.2 (aQ1 h)), trivial⟩) (fun e2 =>
       .u ((q.1.tasks.length : Int) = q.2.tasks.length) (fun h => .rt false ⟨aF1 (mB hq.1 hq.2 (fS h (fun e => by rw [e]))), trivial⟩) (fun e3 =>
       .l (Γ := Nat) (fun i => i ≤ q.1.tasks.length ∧ q.1.tasks.take i = q.2.tasks.take i) (fun i => q.1.tasks.length - i) [2, 3, 7, 8, 9] [4, 5, 9, 13] [0, 1, 2, 3, 7, 8, 11, 12] (fun i => [vI 10 i]) (fun i => []) 0 (h := ⟨Nat.zero_le _, rfl⟩) fun i hi ti => .s ((i : Int) < q.1.tasks.length)
        (fun h6 => .x q.1.tasks i (h := by omega) fun e he ge => .x q.2.tasks i (h := by omega) fun f hf gf => .qe (aQ0 e f) aB <| .v (eqB e f)
         (fun h7 => .rt false ⟨aF1 (mB hq.1 hq.2 ((run_net (mC he hf h7)))), trivial⟩)
         (fun h7 => .p i 1 (h := by unfold I64; omega) <| .n ti (i + 1) [] (h1 := ⟨by omega, lC hi.2 he hf h7⟩)))
        (fun h6 => .p k 1 (h := by unfold I64; omega) <| .n t (k + 1) [] (h1 := ⟨by omega, lC hk.2 hq.1 hq.2 (dQ (aE6 e0 (eqB_iff.1 e2) e1 (nT e3 hi.2 h6)))⟩)))))))
     (fun h5 => .rt true ⟨(dQ (xL h0 h1 hsh (nT h3 hk.2 h5))).symm, trivial⟩))))))) aB
section
variable {P : Program} {n : Nat} {f : Nat → Value} {W w0 : World} {rs : List Res} {Q : Exit → Act → World → Prop} {K : Value → World → Prop}
 {d : Option Tmp} {ty : TypeId} {pos : String} {af : Array Go.Edge} {g : Option (Nat × Bool)} {α : Type} [Shape α]
theorem Elems.reps {W : World} {zs : List Value} {z : α} (h : Shape.C W zs z []) : ∀ m, Elems W ((List.range (m * zs.length)).map (fun j => zs.toArray[j % zs.toArray.size]!)) (List.replicate m z) []
 | 0 => by rw [Nat.zero_mul]; exact ⟨rfl, rfl⟩
 | m + 1 => by
  have ih := Elems.reps h m
  have e : (List.range ((m + 1) * zs.length)).map (fun j => zs.toArray[j % zs.toArray.size]!) = (List.range (m * zs.length)).map (fun j => zs.toArray[j % zs.toArray.size]!) ++ zs := by
   rw [Nat.succ_mul, range_add, map_append, map_map]
   congr 1
   apply ext_getElem
   ·simp
   intro j h1 h2
   simp only [getElem_map, getElem_range, Function.comp, size_toArray]
   rw [Nat.mul_comm, Nat.mul_add_mod, Nat.mod_eq_of_lt h2]
   simp [h2]
  rw [e, replicate_succ']
  exact ih.append (Elems.single h)
end
theorem restartY_wt {y : Yard} (h : aI y = true) : (cJ y).wt ≤ 100000 := by
 have hY := fW h
 unfold cJ
 rw [h, if_pos rfl]
 exact (RI.outer hY _ (Nat.le_refl _)).wt hY (by have := hY.runs; omega)
theorem pS {y : Yard} {s : List (List Entry)} {rr : List Run} {a b : Int} (h4 : s.length = 4) (he : ∀ j, j < 4 → (s.getD j []).length ≤ 1000) (h8 : rr.length ≤ 8) (hr : ∀ r ∈ rr, r.wt ≤ 42) : (⟨a, b, s, rr⟩ : Yard).wt ≤ 100000 := by
 have hs := qA (fun z : List Entry => z.length) 1000 s (fun z hz => by
  obtain ⟨j, hj, rfl⟩ := getElem_of_mem hz
  have := he j aA
  rw [getD_eq_getElem?_getD, getElem?_eq_getElem hj] at this
  simpa using this)
 have hq := qA (fun z : Run => z.wt) 42 rr hr
 rw [h4] at hs
 have : rr.length * 42 ≤ 8 * 42 := Nat.mul_le_mul_right _ h8
 unfold Yard.wt wtL
 simp only
 omega
theorem wZ {y : Yard} (hY : YardIs y) {k : Nat} {r r' : Run} (hr : y.runs[k]? = some r) (hl : r'.tasks.length ≤ 12) (hw : r'.wt ≤ 42) : (cC y k r r').wt ≤ 100000 := by
 have h4 := hY.shelf
 have hsr := fA r'.id
 have hfl := kN r r'
 refine pS (y := y) ?_ ?_ ?_ ?_
 ·rw [jX]; exact h4
 ·intro j hj
  by_cases e : j = (aO r'.id).toNat
  ·subst e
   rw [jY _ _ _ _ _ _ aA]
   have := iJ hY (aO r'.id).toNat aA
   omega
  rw [jJ _ _ _ j e]
  have := iJ hY j hj
  omega
 ·rw [length_set]; exact hY.runs
 intro q hq
 rcases mem_or_eq_of_mem_set hq with h | rfl
 ·exact qK hY q h
 exact hw
theorem doneR_wt {r : Run} (h : RunIs r) (i : Nat) : (fT r i).tasks.length ≤ 12 ∧ (fT r i).wt ≤ 42 := by
 obtain ⟨h1, h2, h3, h4⟩ := kR r i
 have hs := h.small
 have hw := h.wt
 unfold Run.wt at hw ⊢
 rw [h2, h3]
 omega
theorem completeY_wt {y : Yard} (id task try_ : Int) {B : Nat} (hB : 100000 ≤ B) (hw : y.wt ≤ B) : (dI y id task try_).wt ≤ B := by
 unfold dI
 by_cases h : cM y id task try_ = 0
 ·obtain ⟨hY, k, r, t, hk, hr, hR, h0, ht, h3⟩ := xJ h
  rw [lE h hk hr]
  obtain ⟨h1, h2⟩ := doneR_wt hR task.toNat
  have := wZ hY hr h1 h2
  omega
 rw [lD h]; exact hw
theorem startT_wt {r : Run} (i : Nat) (t : Task) (now : Int) : (fY r i t now).wt = r.wt := by unfold fY Run.wt; simp
theorem given_wt {y out : Yard} {home : Nat} (hY : YardIs y) (h : PI y out home) : (mR out home).1.wt ≤ 100000 := by
 have hb := h.wt hY
 unfold mR
 split
 ·exact hb
 next e rest he =>
 split
 ·exact hb
 next k hk =>
 split
 ·exact hb
 next r hr =>
 split
 ·exact hb
 next t ht =>
 have hrest : rest.length ≤ 80 := by
  by_cases hh : home < 4
  ·have := h.each home hh; rw [he] at this; simp only [length_cons] at this; omega
  rw [getD_eq_getElem?_getD, getElem?_eq_none (by have := h.len; omega)] at he; cases he
 refine aB1 (y := y) (by rw [length_set]; exact h.len) (kD h.each hrest h.len) (by rw [length_set, h.runs]; exact hY.runs) ?_
 intro q hq
 rcases mem_or_eq_of_mem_set hq with h1 | rfl
 ·rw [h.runs] at h1; exact qK hY q h1
 rw [startT_wt]
 rw [h.runs] at hr
 exact qK hY r (mem_of_getElem? hr)
theorem polled_wt {y : Yard} (worker draw : Int) {B : Nat} (hB : 100000 ≤ B) (hw : y.wt ≤ B) : (eH y worker draw).1.wt ≤ B := by
 unfold eH
 split
 ·exact hw
 next h1 =>
 split
 ·exact hw
 next h2 =>
 have hY := fW (y := y) (by simpa using h1)
 have hi := inB_iff'.1 (show inB worker 0 99 = true by simpa using h2)
 have hh : (((worker % 4).toNat : Nat) : Int) = worker % 4 := by omega
 have hPI := PI.all hY (home := (worker % 4).toNat) aA (l := aZ (worker % 4) draw) (by rw [hh]; exact kG aA) (PI.start hY aA)
 rw [hh] at hPI
 have := given_wt hY hPI
 omega
theorem failsR_wt {r : Run} (h : RunIs r) {i : Nat} {t : Task} (ht : r.tasks[i]? = some t) (h3 : t.state = 3) : (bI r i).tasks.length ≤ 12 ∧ (bI r i).wt ≤ 42 := by
 have hR := h.fails ht h3
 exact ⟨hR.small.2.1, hR.wt⟩
theorem failY_wt {y : Yard} (id task try_ : Int) {B : Nat} (hB : 100000 ≤ B) (hw : y.wt ≤ B) : (kP y id task try_).wt ≤ B := by
 by_cases hA0 : cM y id task try_ = 0
 ·obtain ⟨hY, k, r, t, hix, hr, hRI, h0, hti, h3⟩ := xJ hA0
  have hd := failsR_wt hRI hti h3
  have e : kP y id task try_ = cC y k r (bI r task.toNat) := lE hA0 hix hr
  rw [e]
  exact Nat.le_trans (wZ hY hr hd.1 hd.2) hB
 have e : kP y id task try_ = y := lD hA0
 rw [e]; exact hw
theorem submitted_wt {y : Yard} (id : Int) (p : Plan) {B : Nat} (hB : 100000 ≤ B) (hw : y.wt ≤ B) : (aS y id p).1.wt ≤ B := by
 unfold aS
 split
 ·exact hw
 next h1 =>
 split
 ·exact hw
 split
 ·exact hw
 split
 ·exact hw
 next h4 =>
 split
 ·exact hw
 next h5 =>
 have hY := fW (by simpa using h1)
 have hpf : aG p = 0 := by simpa using h4
 have hpr := aH4 hpf
 have hroom : fR y p = true := by simpa using h5
 have hr8 : y.runs.length < 8 := by unfold fR at hroom; simp at hroom; omega
 refine Nat.le_trans (pS (y := y) ?_ ?_ ?_ ?_) hB
 ·rw [jX]; exact hY.shelf
 ·intro j hj
  by_cases e : j = (aO id).toNat
  ·subst e
   rw [jY _ _ _ _ _ _ (by have := hY.shelf; omega)]
   have h7 : (aK (bC id p).tasks 2).length ≤ (bC id p).tasks.length := eZ _ _ _
   have h8 : (bC id p).tasks.length = p.tasks.toNat := gJ p _
   have h9 := iJ hY (aO id).toNat hj
   omega
  rw [jJ _ _ _ j e]
  have := iJ hY j hj
  omega
 ·rw [length_append, length_singleton]; omega
 intro r hr
 rcases mem_append.1 hr with hr | hr
 ·obtain ⟨j, hj⟩ := mem_iff_getElem?.1 hr
  exact (hY.run j r hj).1.wt
 rw [mem_singleton] at hr; subst hr
 have h8 : (bC id p).tasks.length = p.tasks.toNat := gJ p _
 show (bC id p).plan.wt + (bC id p).tasks.length ≤ 42
 have : (bC id p).plan.wt = p.edges.length := rfl
 omega
theorem ticked_wt {y : Yard} {B : Nat} (hB : 100000 ≤ B) (hw : y.wt ≤ B) : (cS y).1.wt ≤ B := by
 unfold cS
 split
 ·exact hw
 next h1 =>
 split
 ·exact hw
 have hY := fW (by simpa using h1)
 have hn := hY.now
 have hr := hY.runs
 have hl := nL hY y.runs.length
 have hY1 : YardIs (kT (y.now + 1) y) := hY.at aA
 have h2 := RI.list hY1 (l := bN y) uF (bN y).length
 rw [take_length] at h2
 exact Nat.le_trans (h2.wt hY1 (by show (gW y y.runs.length).length ≤ 1000; omega)) hB
theorem goneR_wt (r : Run) : (gX r).wt = r.wt := by
 unfold gX
 split
 ·show r.plan.wt + (eL r.tasks (-1)).length = _
  rw [wF]; rfl
 rfl
theorem cancelled_wt {y : Yard} (id : Int) {B : Nat} (hB : 100000 ≤ B) (hw : y.wt ≤ B) : (bA y id).1.wt ≤ B := by
 unfold bA
 split
 ·exact hw
 next h1 =>
 split
 ·next r hr =>
  split
  ·exact hw
  split
  ·exact hw
  have hY := fW (by simpa using h1)
  refine Nat.le_trans (pS (y := y) hY.shelf (fun j hj => by have := iJ hY j hj; omega) (by rw [length_set]; exact hY.runs) ?_) hB
  intro q hq
  rcases mem_or_eq_of_mem_set hq with hq | hq
  ·obtain ⟨j, hj⟩ := mem_iff_getElem?.1 hq
   exact (hY.run j q hj).1.wt
  subst hq
  rw [goneR_wt]
  exact (hY.run _ r hr).1.wt
 exact hw
theorem forgotten_wt {y : Yard} (id : Int) {B : Nat} (hB : 100000 ≤ B) (hw : y.wt ≤ B) : (aR y id).1.wt ≤ B := by
 unfold aR
 split
 ·exact hw
 next h1 =>
 split
 ·next r hr =>
  split
  ·exact hw
  split
  ·exact hw
  have hY := fW (by simpa using h1)
  refine Nat.le_trans (pS (y := y) (by rw [length_map]; exact hY.shelf) (fun j hj => ?_) ?_ ?_) hB
  ·have h2 := iJ hY j hj
   have h4 := hY.shelf
   rw [getD_eq_getElem?_getD, getElem?_map]
   rw [getD_eq_getElem?_getD] at h2
   cases hq : y.shelf[j]? with
   | none => simp
   | some l =>
    rw [hq] at h2
    have := aD7 id l
    simp at h2 ⊢; omega
  ·have := length_eraseIdx_le y.runs (aD y id).toNat
   have := hY.runs
   omega
  intro q hq
  obtain ⟨j, hj⟩ := mem_iff_getElem?.1 (mem_of_mem_eraseIdx hq)
  exact (hY.run j q hj).1.wt
 exact hw
theorem doD_wt {y : Yard} (d : Deed) {B : Nat} (hB : 100000 ≤ B) (hw : y.wt ≤ B) : (doD y d).1.wt ≤ B := by
 unfold doD
 split
 ·exact hw
 split
 ·exact submitted_wt _ _ hB hw
 split
 ·exact polled_wt _ _ hB hw
 split
 ·exact completeY_wt _ _ _ hB hw
 split
 ·exact failY_wt _ _ _ hB hw
 split
 ·exact ticked_wt hB hw
 split
 ·exact cancelled_wt _ hB hw
 split
 ·exact forgotten_wt _ hB hw
 show (cJ y).wt ≤ B
 cases h : aI y with
 | true => exact Nat.le_trans (restartY_wt h) hB
 | false =>
  have : cJ y = y := by unfold cJ; rw [h]; rfl
  rw [this]; exact hw
noncomputable def doSt (a : Yard × List Reply) (d : Deed) : Yard × List Reply := ((doD a.1 d).1, a.2 ++ [(doD a.1 d).2])
noncomputable def doL (y : Yard) (ds : List Deed) : Yard × List Reply := ds.foldl doSt (y, [])
theorem doL_to {y : Yard} {ds : List Deed} {k : Nat} {d : Deed} (h : ds[k]? = some d) : doL y (ds.take (k + 1)) = doSt (doL y (ds.take k)) d := by
 unfold doL; rw [← cG h, foldl_append]; rfl
theorem doF_wt (ds : List Deed) : ∀ a : Yard × List Reply, a.1.wt ≤ 1048576 → (ds.foldl doSt a).1.wt ≤ 1048576 := by
 induction ds with
 | nil => exact fun a h => h
 | cons d ds ih => exact fun a h => ih _ (doD_wt d aA h)
theorem bD1 {y : Yard} (ds : List Deed) (h : y.wt ≤ 1048576) : (doL y ds).1.wt ≤ 1048576 := doF_wt ds (y, []) h
theorem doF_len (ds : List Deed) : ∀ a : Yard × List Reply, (ds.foldl doSt a).2.length = a.2.length + ds.length := by
 induction ds with
 | nil => exact fun a => rfl
 | cons d ds ih => intro a; rw [foldl_cons, ih]; simp only [doSt, length_append, length_cons, length_nil]; omega
theorem doL_len (y : Yard) (ds : List Deed) : (doL y ds).2.length = ds.length := by unfold doL; rw [doF_len]; simp
theorem aT9 {y : Yard} {ds : List Deed} {k : Nat} {g : Yard × List Reply} (h : g = doL y (ds.take k)) (hk : ¬ (k : Int) < ds.length) : g = doL y ds := by rw [h, take_of_length_le aA]
structure DaJ (y : Yard) (ds : List Deed) (g : Nat × Yard × List Reply) : Prop where
 le : g.1 ≤ ds.length
 eq : g.2 = doL y (ds.take g.1)
 ok : g.2.1.ok
theorem DaJ.wt {y : Yard} {ds : List Deed} {g : Nat × Yard × List Reply} (h : DaJ y ds g) (hw : y.wt ≤ 1048576) : g.2.1.wt ≤ 1048576 := by rw [h.eq]; exact bD1 _ hw
theorem DaJ.len {y : Yard} {ds : List Deed} {g : Nat × Yard × List Reply} (h : DaJ y ds g) : g.2.2.length ≤ ds.length := by rw [h.eq, doL_len, length_take]; omega
theorem DaJ.next {y : Yard} {ds : List Deed} {g : Nat × Yard × List Reply} {d : Deed} (h : DaJ y ds g) (hd : ds[g.1]? = some d) (ho : (doD g.2.1 d).1.ok) : DaJ y ds (g.1 + 1, (doD g.2.1 d).1, g.2.2 ++ [(doD g.2.1 d).2]) :=
 ⟨(gsi_.1 hd).1, by show _ = doL y (ds.take (g.1 + 1)); rw [doL_to hd, ← h.eq]; rfl, ho⟩
theorem DoAll_i (y : Yard) (ds : List Deed) (hw : y.wt ≤ 1048576) (hl : ds.length ≤ 1048576) : Ct1 prog 158 [.S y, .L ds] [.S (doL y ds).1, .L (doL y ds).2] :=
 .one (doL y ds) (rk := fun q => [.S q.1, .L q.2]) <| vc func158 (fun (hg : gin [Par.S y, Par.L ds]) => let gy := hg.1.1
  .c func119 (dO y hw) (hg := ⟨gy, trivial⟩) fun _ => .w Reply 85 7 <|
   .l (Γ := Nat × Yard × List Reply) (DaJ y ds) (fun g => ds.length - g.1) [4, 6, 14, 15] [4] [2] (fun g => [vR 7 8, vI 16 g.1]) (fun g => oR 8 85 g.2.2 :: ryS g.2.1 7 5 6) (0, y, []) (h := ⟨Nat.zero_le _, rfl, gy⟩) fun g hJ tk => let hwg := hJ.wt hw
    let hlg := hJ.len
    .s ((g.1 : Int) < ds.length)
     (fun h => .x ds g.1 (h := by omega) fun d hd gd => .c func106 (Do_i g.2.1 d hwg) (hg := ⟨hJ.ok, gd, trivial⟩) fun hz => .a g.2.2 (doD g.2.1 d).2 32 (hy := hz.2.1.1) (h63 := by unfold maxLen; omega) (hby := by omega) <| .p g.1 1 (h := by unfold I64; omega) <|
      .n tk (g.1 + 1, (doD g.2.1 d).1, g.2.2 ++ [(doD g.2.1 d).2]) [(5, 12), (6, 13)] (h1 := hJ.next hd hz.1.1) (h2 := by show ds.length - (g.1 + 1) < _; omega))
     (fun h => .rt g.2 ⟨aT9 hJ.eq h, hJ.ok, trivial⟩)) aB
theorem DoAll_s (y : Yard) (ds : List Deed) (hw : y.wt ≤ 1048576) (hl : ds.length ≤ 1048576) : Ct1 prog 154 [.S y, .L ds] [.S (doL y ds).1, .L (doL y ds).2] :=
 .one (doL y ds) (rk := fun q => [.S q.1, .L q.2]) <| vc func154 (fun (hg : gin [Par.S y, Par.L ds]) => let gy := hg.1.1
  .c func184 (dN y hw) (hg := ⟨gy, trivial⟩) fun _ => .e Reply <|
   .l (Γ := Nat × Yard × List Reply) (DaJ y ds) (fun g => ds.length - g.1) [1, 4, 6] [4] [2] (fun g => [vR 7 8, vI 8 g.1]) (fun g => oR 8 85 g.2.2 :: ryS g.2.1 7 5 6) (0, y, []) (h := ⟨Nat.zero_le _, rfl, gy⟩) fun g hJ tk => let hwg := hJ.wt hw
    let hlg := hJ.len
    .s ((g.1 : Int) < ds.length)
     (fun h => .x ds g.1 (h := by omega) fun d hd gd => .c func115 (Do_s g.2.1 d hwg) (hg := ⟨hJ.ok, gd, trivial⟩) fun hz => .a g.2.2 (doD g.2.1 d).2 32 (hy := hz.2.1.1) (h63 := by unfold maxLen; omega) (hby := by omega) <| .p g.1 1 (h := by unfold I64; omega) <|
      .n tk (g.1 + 1, (doD g.2.1 d).1, g.2.2 ++ [(doD g.2.1 d).2]) [(5, 12), (6, 13)] (h1 := hJ.next hd hz.1.1) (h2 := by show ds.length - (g.1 + 1) < _; omega))
     (fun h => .rt g.2 ⟨aT9 hJ.eq h, hJ.ok, trivial⟩)) aB
noncomputable def gY (w : WorldD) : Bool := decide (w.told ≤ (w.deeds.length : Int)) && eqB (doL yardNew w.deeds).1 w.engine.yard
theorem sty_t {w : WorldD} (h : w.told ≤ (w.deeds.length : Int)) : eqB (doL yardNew w.deeds).1 w.engine.yard = gY w := by unfold gY; rw [decide_eq_true h, Bool.true_and]
theorem sty_f {w : WorldD} (h : ¬ w.told ≤ (w.deeds.length : Int)) : false = gY w := by unfold gY; rw [decide_eq_false h, Bool.false_and]
theorem oV : yardNew.wt ≤ 1048576 := by decide
theorem uM : yardNew.ok := ⟨by show I64 0; unfold I64; omega, by show I64 1; unfold I64; omega⟩
theorem Stays_i (w : WorldD) (hl : w.deeds.length ≤ 1048576) : Ct1 prog 57 [.S w] [.B (gY w)] :=
 .one (gY w) (rk := fun b => [.B b]) <| vc func57 (fun (hg : gin [Par.S w]) => .c func102 YardNewD fun _ => .c func158 (DoAll_i yardNew w.deeds oV hl) (hg := ⟨uM, trivial⟩) fun hz =>
  .s (w.told ≤ (w.deeds.length : Int))
   (fun h => .c func159 (SameYard_i (doL yardNew w.deeds).1 w.engine.yard) (hg := ⟨hz.1.1, hg.1.1.1.1, trivial⟩) fun _ => .rt (eqB (doL yardNew w.deeds).1 w.engine.yard) ⟨sty_t h, trivial⟩)
   (fun h => .rt false ⟨sty_f h, trivial⟩)) aB
theorem Stays_s (w : WorldD) (hl : w.deeds.length ≤ 1048576) : Ct1 prog 55 [.S w] [.B (gY w)] :=
 .one (gY w) (rk := fun b => [.B b]) <| vc func55 (fun (hg : gin [Par.S w]) => .c func125 YardNewSD fun _ => .c func154 (DoAll_s yardNew w.deeds oV hl) (hg := ⟨uM, trivial⟩) fun hz =>
  .s (w.told ≤ (w.deeds.length : Int))
   (fun h => .c func155 (SameYard_s (doL yardNew w.deeds).1 w.engine.yard (bD1 _ oV)) (hg := ⟨hz.1.1, hg.1.1.1.1, trivial⟩) fun _ => .rt (eqB (doL yardNew w.deeds).1 w.engine.yard) ⟨sty_t h, trivial⟩)
   (fun h => .rt false ⟨sty_f h, trivial⟩)) aB
theorem aN3 {x : WorldD} (h : x.wt ≤ 1048576) : x.deeds.length ≤ 1048576 := by unfold WorldD.wt wtL at h; omega
theorem ret_b {w W : World} {e : Ending} {b : Bool} {vs : List Value} {rs : List Res} (he : e = .returned (qJ vs)) (hr : Rks vs [Rk.B b] rs) (st : St w W rs) : e = .returned (.bool b) ∧ St w W [] := by
 match vs, hr with
 | [u], hr =>
  obtain ⟨r1, r2, ⟨h1, h4⟩, h2, h3⟩ := hr
  have h2 : r2 = [] := h2
  subst h1 h4 h2 h3
  exact ⟨he, st⟩
theorem StaysIC {x : WorldD} (hc : Shape.C w cs x fp) (hw : x.wt ≤ 1048576) : Calls prog 57 #[.agg cs.toArray] w fun e w' => e = .returned (.bool (gY x)) ∧ St w w' [] :=
 ((Stays_i x (aN3 hw)).run w [.agg cs.toArray] trivial ⟨⟨cs, fp, rfl, hc⟩, trivial⟩).mono fun r W ⟨_, vs, rs, _, he, hr, st⟩ => ret_b he hr st
theorem StaysSC {x : WorldD} (hc : Shape.C w cs x fp) (hw : x.wt ≤ 1048576) : Calls prog 55 #[.agg cs.toArray] w fun e w' => e = .returned (.bool (gY x)) ∧ St w w' [] :=
 ((Stays_s x (aN3 hw)).run w [.agg cs.toArray] trivial ⟨⟨cs, fp, rfl, hc⟩, trivial⟩).mono fun r W ⟨_, vs, rs, _, he, hr, st⟩ => ret_b he hr st
theorem stays_law (cs0 : List Value) (x0 : WorldD) (fp0 : List Nat) (hc0 : Shape.C w cs0 x0 fp0) :
  Calls prog 10 #[.agg cs0.toArray] w fun e w' => e = .returned (.bool true) ∧ Below w.heap.size w w' := by
 refine bC4 func10 rfl ntmps10 dE (wp_seq (aC (sg (iP (cs := cs0) rfl (St.start w) ?_)))); intro b1 W2 hb3 st4
 refine sg (dB (aF (wp_seq (aC (sg (dB (aF (wp_seq (aC (rc st4 4 Ag.nil.put.put.put.put [3] [(3, I (szL 1048576 x0.wt))] [qw 0 rfl (Shape.len hc0), qc func54 rfl (fun W s b => szWorld_n W (gS hc0 s.below) 1048576 aA aA)] aB fun f11 W12 h11_ st13 hb14 => (aF (wp_seq (wp_seq ?_)))))))))))))
 refine aC (sg (bB (h11_.at 3) (sg (qC rfl rfl (aF (fX rfl (fun h17p => ?_) (fun h17p => ?_)))))))
 ·have h17q := eS h17p aA
  refine wp_seq (aC (sg (dB (aF (wr (vN results10 rfl ?_))))))
  exact ⟨rfl, st13.below⟩
 have h17q := eT h17p aA
 refine wp_skip (wp_seq (aC (sg (dV sD rfl (h11_.at 1) (st13.get 0 rfl) (Shape.len hc0) (sg (nE func56 rfl rfl ((rP W12 (gS hc0 st13.below) (by first | exact hw | omega | (simp only [Plan.wt, Run.wt, Yard.wt, Deed.wt, Note.wt, File.wt, Disk.wt, Engine.wt, WorldD.wt, ActD.wt, Span.wt, Crew.wt] at *; omega))).mono ?_))))))); rintro _ W24 ⟨cs22, fp22, rfl, hk25⟩; refine ⟨_, rfl, ?_⟩
 have st26 := St.call st13 hk25
 refine rc st26 2 h11_.put.put.put.put [] [(4, .bool (gY x0))] [qc func55 rfl (fun W s b => StaysSC W (gL (s.get 0 rfl) rfl) aA)] aB fun f29 W30 h29_ st31 hb32 => (aF (wp_seq (aC (sg (dV sD rfl (h29_.at 1) (st31.get 1 rfl) (Shape.len hc0) (sg (nE func56 rfl rfl ((rP W30 (gS hc0 st31.below) (by first | exact hw | omega | (simp only [Plan.wt, Run.wt, Yard.wt, Deed.wt, Note.wt, File.wt, Disk.wt, Engine.wt, WorldD.wt, ActD.wt, Span.wt, Crew.wt] at *; omega))).mono ?_)))))))); rintro _ W37 ⟨cs35, fp35, rfl, hk38⟩; refine ⟨_, rfl, ?_⟩
 have st39 := St.call st31 hk38
 refine sg (gB zz_World st39 ?_); intro b41 W42 hb43 st44
 refine sgn (eR (cs := cs35) aI1 (gL (st44.get 1 rfl) rfl) rfl rfl st44 rfl ?_); intro W46 st47
 refine aF (wp_seq (aC (lw h29_.put.put.put [(1, pt_ b1), (4, .bool (gY x0)), (5, pt_ b41)] aB fun h50_ => (rc st47 3 h50_ [] [(6, .bool (gY x0))] [qw 0 rfl (Shape.len (gL (st47.get 1 rfl) rfl)), qc func57 rfl (fun W s b => StaysIC W (gL (s.get 1 rfl) rfl) aA)] aB fun f49 W51 h49_ st52 hb53 => (aF (wp_seq (wp_seq (aC (sg (bB (h49_.at 6) (sg (bB (h49_.at 4) (sg (aG1 underlying4 rfl rfl ?_))))))))))))))
 refine aF (oG rfl (fun h56 => ?_) (fun h56 => ?_))
 ·exact absurd (aM7 h56) (by simp)
 refine wp_skip (wp_seq (wp_seq (kJ 3 [(some 2, none, .of (ι := List Value × List Nat) [24] (fun ⟨cs57, fp57⟩ => [.agg cs57.toArray]) (fun ⟨cs57, fp57⟩ => Res.own (α := WorldD) (.agg cs57.toArray) x0 fp57))] [(true, .is (.agg cs35.toArray)), (true, .is (.agg cs0.toArray)), (false, .ex (fun (cs57 : List Value) => .agg cs57.toArray))] mix aB aB aB aB (rs0 := []) rfl st52 (Below.refl _ _) ⟨(fun f W hst hbl hd hf => dV aI1 rfl ((hf 5 rfl).trans (h49_.at 5)) (hst.get 0 rfl) (Shape.len (gL (hst.get 1 rfl) rfl)) brq), (fun f W hst hbl hd hf => dV sD rfl ((hf 1 rfl).trans (h49_.at 1)) (hst.get 3 rfl) (Shape.len hc0) brq), ?_, trivial⟩ ?_)))
 ·intro f W ru oth hu hst hbl hd hf
  have hn_ : ru = [] := hu
  subst hn_
  try simp only [cap_, sB] at hst
  refine (nE func56 rfl (hd 1 23 rfl rfl) ((rP W (gS hc0 hst.below) (by first | exact hw | omega | (simp only [Plan.wt, Run.wt, Yard.wt, Deed.wt, Note.wt, File.wt, Disk.wt, Engine.wt, WorldD.wt, ActD.wt, Span.wt, Crew.wt] at *; omega))).mono ?_)); rintro _ W59 ⟨cs57, fp57, rfl, hk60⟩; refine ⟨_, rfl, ?_⟩
  have st61 := St.call hst hk60
  exact ⟨⟨cs57, rfl⟩, ⟨_, ⟨_, _, rfl, ⟨(cs57, fp57), (ce rfl rfl), rfl⟩, rfl⟩, st61⟩, (hbl.trans (Below.mono hk60.below hbl.size))⟩
 intro f63 W64 rs_ hAL_ st67 hbl68 hv65 hf66
 obtain ⟨_, _, rfl, ⟨⟨cs57, fp57⟩, he69, rfl⟩, hn_⟩ := hAL_
 have hn_ : _ = [] := hn_
 subst hn_
 have hu69_24 : f63 24 = .agg cs57.toArray := congrArg (fun l => l.getD 0 undef) he69
 try simp only [cap_, sB] at st67
 refine rc st67 2 (Ag.cons (show f63 22 = .agg cs35.toArray from (hv65 0 22 dE rfl)) (Ag.cons (show f63 24 = .agg cs57.toArray from hu69_24) Ag.nil)) [] [(26, .bool (!(eqB x0 x0)))] [qc func58 rfl (fun W s b => eqWorld_n W (gL (s.get 2 rfl) rfl) (gL (s.get 0 rfl) rfl)), .o] aB fun f72 W73 h72_ st74 hb75 => (aF (oG (h72_.at 26) (fun h76 => ?_) (fun h76 => ?_)))
 ·exact absurd (aM7 h76) (by rw [dQ rfl]; decide)
 refine wp_skip (wp_seq (aC (sg (dB (aF (wr (vN results10 rfl ?_)))))))
 exact ⟨rfl, st74.below⟩
end Go.Proofs.YtanpcpoogkdlaaaGreat
namespace Go.Proofs.YtanpcpoogkdlaaaGreat
set_option linter.unusedSimpArgs false
set_option linter.unusedVariables false
set_option maxRecDepth 100000
set_option maxHeartbeats 2000000
open Go.ChangeShapes Go.WideShapes Go.ChangeAt Go.RowKit Go.Deep
def eI (t : TypeId) (α : Type) [Shape α] : Prop := ∀ {H : Type} (enc : TypeId × Value → H) (w : World) (fuel : Nat) (cs : List Value) (x : DataW H × List MemPlace),
 DataW.trod enc Tryz.prog w 0 (fun _ => true) true fuel t cs = some x → ∃ (a : α) (fp : List Nat), Shape.C w cs a fp

theorem bQ {n : Int} (h : (Lit.int .i64 n).wf = true) : I64 n := by
 have := bounds_i64 h
 exact this

theorem dZ {t e : TypeId} {α : Type} [Shape α] (ht : Tryz.prog.underlying t = some (.slice e)) (hC : Tryz.prog.cellsOf e = Shape.size α) (hp : 0 < Shape.size α) (he : eI e α) : eI t (List α) := by
 intro H enc w fuel cs x h
 rcases open_slice ht h with ⟨rfl, _⟩ | ⟨a, len, cap, m, n, D, Pl, rfl, _, hl, hm, hmm, _, hi⟩
 ·exact ⟨[], [], _, rfl, none, 0, rfl, Nat.le_refl _, by omega, .inl ⟨rfl, rfl⟩⟩
 simp only [if_true] at hmm
 subst hmm
 unfold maxLen at hm
 have key : ∀ k, k ≤ len → 0 < len → ∃ (xs : List α) (fp : List Nat), xs.length = k ∧ a.spot = none ∧ SlAt w a.block a.off xs fp := by
  intro k
  induction k with
  | zero =>
   intro _ hlp
   obtain ⟨cs', hc, _⟩ := hi 0 aA
   obtain ⟨_, hcl, hat⟩ := World.cells?_some hc
   rw [hC] at hcl hat
   have h0 := hat 0 hp
   have : a.spot = none := by
    have hlt : 0 < cs'.length := by omega
    rw [List.getElem?_eq_getElem hlt] at h0
    simpa [Addr.add] using World.cell?_spot h0
   exact ⟨[], [], rfl, this, rfl⟩
  | succ k ih =>
   intro hk hlp
   obtain ⟨xs, fp, hxl, hsp, hS⟩ := ih aA hlp
   obtain ⟨cs', hc, ht'⟩ := hi k aA
   obtain ⟨_, hcl, hat⟩ := World.cells?_some hc
   rw [hC] at hcl hat
   obtain ⟨x, f, hx⟩ := he enc w n cs' _ ht'
   refine ⟨xs ++ [x], fp ++ f, by simp [hxl], hsp, SlAt.snoc hS ?_ hx⟩
   intro j v hj
   have hjl : j < cs'.length := (gsi_.1 hj).1
   have := hat j aA
   rw [hj] at this
   rw [← this, hxl]
   obtain ⟨ab, ao, asp⟩ := a
   simp only at hsp
   subst hsp
   rw [Addr.add_mid, Addr.add_mid]
 by_cases hlp : 0 < len
 ·obtain ⟨xs, fp, hxl, hsp, hS⟩ := key len (Nat.le_refl _) hlp
  obtain ⟨ab, ao, asp⟩ := a
  simp only at hsp
  subst hsp
  subst hxl
  have hne : xs ≠ [] := by rintro rfl; simp at hlp
  refine ⟨xs, ab :: fp, _, rfl, _, m, rfl, hl, hm, .inr ⟨ab, ao, fp, hne, rfl, rfl, ?_, hS⟩⟩
  cases xs with
  | nil => exact absurd rfl hne
  | cons x xs =>
   obtain ⟨cs', f1, f2, hr, hc, _, _⟩ := hS
   have hl' := Shape.len hc
   have h0 := hr 0 _ (List.getElem?_eq_getElem aA)
   exact World.block_lt_of_cell? w _ h0
 obtain rfl : len = 0 := by omega
 exact ⟨[], [], _, rfl, _, m, rfl, by simp, hm, .inl ⟨rfl, rfl⟩⟩

theorem opens_bool : eI 4 Bool := by
 intro H enc w fuel cs x h
 cases fuel with
 | zero => simp [DataW.trod] at h
 | succ n =>
  unfold DataW.trod at h
  rw [Tryz.underlying4] at h
  split at h <;> first | exact ⟨_, [], rfl, rfl, trivial⟩ | simp_all
theorem qT : eI 9 ByteArray := by
 intro H enc w fuel cs x h
 obtain ⟨s, rfl, _, hs⟩ := DataW.trod_string Tryz.underlying9 h
 exact ⟨s, [], rfl, rfl, hs⟩

theorem oF {H : Type} {enc : TypeId × Value → H} {W W' : World} (hl : laidOutB Tryz.prog = true) (hb : Below W.heap.size W W') : ∀ {ts : List TypeId} {vs : List Value} {ds : List (DataW H)} {p : List MemPlace},
  (∀ t ∈ ts, Tryz.prog.readableRec t = true ∧ t < Tryz.prog.types.size) → DataW.TrodAll enc Tryz.prog W 0 (fun _ => true) true ts vs ds p → (∀ x ∈ p, x.block < W.heap.size) →
  DataW.TrodAll enc Tryz.prog W' 0 (fun b => decide (b < W.heap.size)) true ts vs ds p
 | [], _, _, _, _, h, _ => by
  obtain ⟨rfl, rfl, rfl⟩ := trodAll_nil h
  exact trodAll_mk0
 | t :: ts, _, _, _, ht, h, hp => by
  obtain ⟨v1, vs1, d1, ds1, p1, q1, rfl, rfl, rfl, h1, r1⟩ := trodAll_cons h
  exact trodAll_cons_mk (Below.trod hl (ht t (by simp)).1 (ht t (by simp)).2 h1 hb (fun x hx => hp x (by simp [hx]))) (oF hl hb (fun t' h' => ht t' (by simp [h'])) r1 (fun x hx => hp x (by simp [hx])))

theorem open_param_struct {H : Type} {enc : TypeId × Value → H} {W : World} {base : Nat} {t : TypeId} {fs : Array Field} {α : Type} [Shape α] (ht : Tryz.prog.underlying t = some (.struct fs)) (ho : eI t α) {v : Value} {d : DataW H} {p : List MemPlace}
  (hv : Value.okWide Tryz.prog W .any base t v) (h : DataW.Trod enc Tryz.prog W 0 (fun _ => true) true t v d p) : ∃ (cs : List Value) (x : α) (fp : List Nat), v = .agg cs.toArray ∧ Shape.C W cs x fp := by
 obtain ⟨cs, rfl, hsz⟩ := okWide_struct ht hv
 obtain ⟨fuel, hf⟩ := h
 obtain ⟨x, fp, hc⟩ := ho enc W fuel _ _ hf
 exact ⟨cs.toList, x, fp, rfl, hc⟩
theorem ownKnobTry : ownKnob Tryz.prog.godebug = none := by kernel_rfl
theorem laidOutTry : laidOutB Tryz.prog = true := by kernel_rfl
end Go.Proofs.YtanpcpoogkdlaaaGreat
namespace Go.Proofs.YtanpcpoogkdlaaaGreat
set_option linter.unusedSimpArgs false
set_option linter.unusedVariables false
set_option maxRecDepth 100000
set_option maxHeartbeats 2000000
open Go.ChangeShapes Go.WideShapes Go.ChangeAt Go.RowKit Go.Deep
theorem opens_Edge : eI 348 Edge := by
 intro H enc w fuel cs x h
 obtain ⟨xs, n, _, hx, hl, hlen, hf⟩ := DataW.trod_struct Tryz.underlying348 h
 have hl' : cs.length = 2 := hl
 have hlen' : xs.length = 2 := hlen
 match cs, hl', xs, hlen' with
 | [c0, c1], _, [y0, y1], _ =>
  obtain ⟨n0, e0, _, w0⟩ := DataW.trod_int Tryz.underlying3 (hf 0 _ rfl)
  have e0' : [c0] = [I n0] := e0
  obtain rfl := List.singleton_inj.1 e0'
  obtain ⟨n1, e1, _, w1⟩ := DataW.trod_int Tryz.underlying3 (hf 1 _ rfl)
  have e1' : [c1] = [I n1] := e1
  obtain rfl := List.singleton_inj.1 e1'
  exact ⟨⟨n0, n1⟩, [], rfl, rfl, ⟨bQ w0, bQ w1⟩⟩
theorem opens_EdgeS : eI 102 (List Edge) := dZ Tryz.underlying102 aB dE opens_Edge
theorem vV : eI 104 Plan := by
 intro H enc w fuel cs x h
 obtain ⟨xs, n, _, hx, hl, hlen, hf⟩ := DataW.trod_struct Tryz.underlying104 h
 have hl' : cs.length = 5 := hl
 have hlen' : xs.length = 5 := hlen
 match cs, hl', xs, hlen' with
 | [c0, c1, c2, c3, c4], _, [y0, y1, y2, y3, y4], _ =>
  obtain ⟨n0, e0, _, w0⟩ := DataW.trod_int Tryz.underlying3 (hf 0 _ rfl)
  have e0' : [c0] = [I n0] := e0
  obtain rfl := List.singleton_inj.1 e0'
  obtain ⟨n1, e1, _, w1⟩ := DataW.trod_int Tryz.underlying3 (hf 1 _ rfl)
  have e1' : [c1] = [I n1] := e1
  obtain rfl := List.singleton_inj.1 e1'
  obtain ⟨n2, e2, _, w2⟩ := DataW.trod_int Tryz.underlying3 (hf 2 _ rfl)
  have e2' : [c2] = [I n2] := e2
  obtain rfl := List.singleton_inj.1 e2'
  obtain ⟨n3, e3, _, w3⟩ := DataW.trod_int Tryz.underlying3 (hf 3 _ rfl)
  have e3' : [c3] = [I n3] := e3
  obtain rfl := List.singleton_inj.1 e3'
  obtain ⟨l4, g4, u4, e4, s4⟩ := opens_EdgeS enc w n _ _ (hf 4 _ rfl)
  have e4' : [c4] = [u4] := e4
  obtain rfl := List.singleton_inj.1 e4'
  exact ⟨⟨n0, n1, n2, n3, l4⟩, _, _, g4, rfl, ⟨bQ w0, bQ w1, bQ w2, bQ w3⟩, s4, rfl⟩
theorem opens_Entry : eI 363 Entry := by
 intro H enc w fuel cs x h
 obtain ⟨xs, n, _, hx, hl, hlen, hf⟩ := DataW.trod_struct Tryz.underlying363 h
 have hl' : cs.length = 4 := hl
 have hlen' : xs.length = 4 := hlen
 match cs, hl', xs, hlen' with
 | [c0, c1, c2, c3], _, [y0, y1, y2, y3], _ =>
  obtain ⟨n0, e0, _, w0⟩ := DataW.trod_int Tryz.underlying3 (hf 0 _ rfl)
  have e0' : [c0] = [I n0] := e0
  obtain rfl := List.singleton_inj.1 e0'
  obtain ⟨n1, e1, _, w1⟩ := DataW.trod_int Tryz.underlying3 (hf 1 _ rfl)
  have e1' : [c1] = [I n1] := e1
  obtain rfl := List.singleton_inj.1 e1'
  obtain ⟨n2, e2, _, w2⟩ := DataW.trod_int Tryz.underlying3 (hf 2 _ rfl)
  have e2' : [c2] = [I n2] := e2
  obtain rfl := List.singleton_inj.1 e2'
  obtain ⟨n3, e3, _, w3⟩ := DataW.trod_int Tryz.underlying3 (hf 3 _ rfl)
  have e3' : [c3] = [I n3] := e3
  obtain rfl := List.singleton_inj.1 e3'
  exact ⟨⟨n0, n1, n2, n3⟩, [], rfl, rfl, ⟨bQ w0, bQ w1, bQ w2, bQ w3⟩⟩
theorem opens_EntryS : eI 336 (List Entry) := dZ Tryz.underlying336 aB dE opens_Entry
theorem opens_Task : eI 372 Task := by
 intro H enc w fuel cs x h
 obtain ⟨xs, n, _, hx, hl, hlen, hf⟩ := DataW.trod_struct Tryz.underlying372 h
 have hl' : cs.length = 4 := hl
 have hlen' : xs.length = 4 := hlen
 match cs, hl', xs, hlen' with
 | [c0, c1, c2, c3], _, [y0, y1, y2, y3], _ =>
  obtain ⟨n0, e0, _, w0⟩ := DataW.trod_int Tryz.underlying3 (hf 0 _ rfl)
  have e0' : [c0] = [I n0] := e0
  obtain rfl := List.singleton_inj.1 e0'
  obtain ⟨n1, e1, _, w1⟩ := DataW.trod_int Tryz.underlying3 (hf 1 _ rfl)
  have e1' : [c1] = [I n1] := e1
  obtain rfl := List.singleton_inj.1 e1'
  obtain ⟨n2, e2, _, w2⟩ := DataW.trod_int Tryz.underlying3 (hf 2 _ rfl)
  have e2' : [c2] = [I n2] := e2
  obtain rfl := List.singleton_inj.1 e2'
  obtain ⟨n3, e3, _, w3⟩ := DataW.trod_int Tryz.underlying3 (hf 3 _ rfl)
  have e3' : [c3] = [I n3] := e3
  obtain rfl := List.singleton_inj.1 e3'
  exact ⟨⟨n0, n1, n2, n3⟩, [], rfl, rfl, ⟨bQ w0, bQ w1, bQ w2, bQ w3⟩⟩
theorem opens_TaskS : eI 338 (List Task) := dZ Tryz.underlying338 aB dE opens_Task
theorem opens_Run : eI 340 Run := by
 intro H enc w fuel cs x h
 obtain ⟨xs, n, _, hx, hl, hlen, hf⟩ := DataW.trod_struct Tryz.underlying340 h
 have hl' : cs.length = 8 := hl
 have hlen' : xs.length = 4 := hlen
 match cs, hl', xs, hlen' with
 | [c0, c1, c2, c3, c4, c5, c6, c7], _, [y0, y1, y2, y3], _ =>
  obtain ⟨n0, e0, _, w0⟩ := DataW.trod_int Tryz.underlying3 (hf 0 _ rfl)
  have e0' : [c0] = [I n0] := e0
  obtain rfl := List.singleton_inj.1 e0'
  obtain ⟨z1, gz1, u1_0, g1_0, e1, ok1, s1_0, _⟩ := vV enc w n _ _ (hf 1 _ rfl)
  have e1' : [c1, c2, c3, c4, c5] = [I z1.prio, I z1.most, I z1.wait, I z1.tasks, u1_0] := e1
  simp only [List.cons.injEq, and_true] at e1'
  obtain ⟨rfl, rfl, rfl, rfl, rfl⟩ := e1'
  obtain ⟨n2, e2, _, w2⟩ := DataW.trod_int Tryz.underlying3 (hf 2 _ rfl)
  have e2' : [c6] = [I n2] := e2
  obtain rfl := List.singleton_inj.1 e2'
  obtain ⟨l3, g3, u3, e3, s3⟩ := opens_TaskS enc w n _ _ (hf 3 _ rfl)
  have e3' : [c7] = [u3] := e3
  obtain rfl := List.singleton_inj.1 e3'
  exact ⟨⟨n0, z1, n2, l3⟩, _, _, _, g1_0, g3, rfl, ⟨bQ w0, ok1, bQ w2⟩, s1_0, s3, rfl⟩
theorem opens_RunS : eI 68 (List Run) := dZ Tryz.underlying68 aB dE opens_Run
theorem opens_EntrySS : eI 67 (List (List Entry)) := dZ Tryz.underlying67 aB dE opens_EntryS
theorem opens_Yard : eI 70 Yard := by
 intro H enc w fuel cs x h
 obtain ⟨xs, n, _, hx, hl, hlen, hf⟩ := DataW.trod_struct Tryz.underlying70 h
 have hl' : cs.length = 4 := hl
 have hlen' : xs.length = 4 := hlen
 match cs, hl', xs, hlen' with
 | [c0, c1, c2, c3], _, [y0, y1, y2, y3], _ =>
  obtain ⟨n0, e0, _, w0⟩ := DataW.trod_int Tryz.underlying3 (hf 0 _ rfl)
  have e0' : [c0] = [I n0] := e0
  obtain rfl := List.singleton_inj.1 e0'
  obtain ⟨n1, e1, _, w1⟩ := DataW.trod_int Tryz.underlying3 (hf 1 _ rfl)
  have e1' : [c1] = [I n1] := e1
  obtain rfl := List.singleton_inj.1 e1'
  obtain ⟨l2, g2, u2, e2, s2⟩ := opens_EntrySS enc w n _ _ (hf 2 _ rfl)
  have e2' : [c2] = [u2] := e2
  obtain rfl := List.singleton_inj.1 e2'
  obtain ⟨l3, g3, u3, e3, s3⟩ := opens_RunS enc w n _ _ (hf 3 _ rfl)
  have e3' : [c3] = [u3] := e3
  obtain rfl := List.singleton_inj.1 e3'
  exact ⟨⟨n0, n1, l2, l3⟩, _, _, _, g2, g3, rfl, ⟨bQ w0, bQ w1⟩, s2, s3, rfl⟩
theorem tF : eI 264 Reply := by
 intro H enc w fuel cs x h
 obtain ⟨xs, n, _, hx, hl, hlen, hf⟩ := DataW.trod_struct Tryz.underlying264 h
 have hl' : cs.length = 4 := hl
 have hlen' : xs.length = 4 := hlen
 match cs, hl', xs, hlen' with
 | [c0, c1, c2, c3], _, [y0, y1, y2, y3], _ =>
  obtain ⟨n0, e0, _, w0⟩ := DataW.trod_int Tryz.underlying3 (hf 0 _ rfl)
  have e0' : [c0] = [I n0] := e0
  obtain rfl := List.singleton_inj.1 e0'
  obtain ⟨n1, e1, _, w1⟩ := DataW.trod_int Tryz.underlying3 (hf 1 _ rfl)
  have e1' : [c1] = [I n1] := e1
  obtain rfl := List.singleton_inj.1 e1'
  obtain ⟨n2, e2, _, w2⟩ := DataW.trod_int Tryz.underlying3 (hf 2 _ rfl)
  have e2' : [c2] = [I n2] := e2
  obtain rfl := List.singleton_inj.1 e2'
  obtain ⟨n3, e3, _, w3⟩ := DataW.trod_int Tryz.underlying3 (hf 3 _ rfl)
  have e3' : [c3] = [I n3] := e3
  obtain rfl := List.singleton_inj.1 e3'
  exact ⟨⟨n0, n1, n2, n3⟩, [], rfl, rfl, ⟨bQ w0, bQ w1, bQ w2, bQ w3⟩⟩
theorem opens_ReplyS : eI 90 (List Reply) := dZ Tryz.underlying90 aB dE tF
theorem opens_Deed : eI 106 Deed := by
 intro H enc w fuel cs x h
 obtain ⟨xs, n, _, hx, hl, hlen, hf⟩ := DataW.trod_struct Tryz.underlying106 h
 have hl' : cs.length = 11 := hl
 have hlen' : xs.length = 7 := hlen
 match cs, hl', xs, hlen' with
 | [c0, c1, c2, c3, c4, c5, c6, c7, c8, c9, c10], _, [y0, y1, y2, y3, y4, y5, y6], _ =>
  obtain ⟨n0, e0, _, w0⟩ := DataW.trod_int Tryz.underlying3 (hf 0 _ rfl)
  have e0' : [c0] = [I n0] := e0
  obtain rfl := List.singleton_inj.1 e0'
  obtain ⟨n1, e1, _, w1⟩ := DataW.trod_int Tryz.underlying3 (hf 1 _ rfl)
  have e1' : [c1] = [I n1] := e1
  obtain rfl := List.singleton_inj.1 e1'
  obtain ⟨z2, gz2, u2_0, g2_0, e2, ok2, s2_0, _⟩ := vV enc w n _ _ (hf 2 _ rfl)
  have e2' : [c2, c3, c4, c5, c6] = [I z2.prio, I z2.most, I z2.wait, I z2.tasks, u2_0] := e2
  simp only [List.cons.injEq, and_true] at e2'
  obtain ⟨rfl, rfl, rfl, rfl, rfl⟩ := e2'
  obtain ⟨n3, e3, _, w3⟩ := DataW.trod_int Tryz.underlying3 (hf 3 _ rfl)
  have e3' : [c7] = [I n3] := e3
  obtain rfl := List.singleton_inj.1 e3'
  obtain ⟨n4, e4, _, w4⟩ := DataW.trod_int Tryz.underlying3 (hf 4 _ rfl)
  have e4' : [c8] = [I n4] := e4
  obtain rfl := List.singleton_inj.1 e4'
  obtain ⟨n5, e5, _, w5⟩ := DataW.trod_int Tryz.underlying3 (hf 5 _ rfl)
  have e5' : [c9] = [I n5] := e5
  obtain rfl := List.singleton_inj.1 e5'
  obtain ⟨n6, e6, _, w6⟩ := DataW.trod_int Tryz.underlying3 (hf 6 _ rfl)
  have e6' : [c10] = [I n6] := e6
  obtain rfl := List.singleton_inj.1 e6'
  exact ⟨⟨n0, n1, z2, n3, n4, n5, n6⟩, _, _, g2_0, rfl, ⟨bQ w0, bQ w1, ok2, bQ w3, bQ w4, bQ w5, bQ w6⟩, s2_0, rfl⟩
theorem opens_DeedS : eI 89 (List Deed) := dZ Tryz.underlying89 aB dE opens_Deed
theorem opens_Wait : eI 266 Wait := by
 intro H enc w fuel cs x h
 obtain ⟨xs, n, _, hx, hl, hlen, hf⟩ := DataW.trod_struct Tryz.underlying266 h
 have hl' : cs.length = 5 := hl
 have hlen' : xs.length = 2 := hlen
 match cs, hl', xs, hlen' with
 | [c0, c1, c2, c3, c4], _, [y0, y1], _ =>
  obtain ⟨n0, e0, _, w0⟩ := DataW.trod_int Tryz.underlying3 (hf 0 _ rfl)
  have e0' : [c0] = [I n0] := e0
  obtain rfl := List.singleton_inj.1 e0'
  obtain ⟨z1, gz1, e1, _, ok1⟩ := tF enc w n _ _ (hf 1 _ rfl)
  have e1' : [c1, c2, c3, c4] = [I z1.code, I z1.run, I z1.task, I z1.try_] := e1
  simp only [List.cons.injEq, and_true] at e1'
  obtain ⟨rfl, rfl, rfl, rfl⟩ := e1'
  exact ⟨⟨n0, z1⟩, [], rfl, rfl, ⟨bQ w0, ok1⟩⟩
theorem opens_WaitS : eI 71 (List Wait) := dZ Tryz.underlying71 aB dE opens_Wait
theorem opens_File : eI 253 File := by
 intro H enc w fuel cs x h
 obtain ⟨xs, n, _, hx, hl, hlen, hf⟩ := DataW.trod_struct Tryz.underlying253 h
 have hl' : cs.length = 3 := hl
 have hlen' : xs.length = 3 := hlen
 match cs, hl', xs, hlen' with
 | [c0, c1, c2], _, [y0, y1, y2], _ =>
  obtain ⟨s0, fs0, e0, _, ws0⟩ := qT enc w n _ _ (hf 0 _ rfl)
  have e0' : [c0] = [.string s0] := e0
  obtain rfl := List.singleton_inj.1 e0'
  obtain ⟨s1, fs1, e1, _, ws1⟩ := qT enc w n _ _ (hf 1 _ rfl)
  have e1' : [c1] = [.string s1] := e1
  obtain rfl := List.singleton_inj.1 e1'
  obtain ⟨n2, e2, _, w2⟩ := DataW.trod_int Tryz.underlying3 (hf 2 _ rfl)
  have e2' : [c2] = [I n2] := e2
  obtain rfl := List.singleton_inj.1 e2'
  exact ⟨⟨s0, s1, n2⟩, [], rfl, rfl, ⟨ws0, ws1, bQ w2⟩⟩
theorem opens_FileS : eI 58 (List File) := dZ Tryz.underlying58 aB dE opens_File
theorem opens_Disk : eI 60 Disk := by
 intro H enc w fuel cs x h
 obtain ⟨xs, n, _, hx, hl, hlen, hf⟩ := DataW.trod_struct Tryz.underlying60 h
 have hl' : cs.length = 1 := hl
 have hlen' : xs.length = 1 := hlen
 match cs, hl', xs, hlen' with
 | [c0], _, [y0], _ =>
  obtain ⟨l0, g0, u0, e0, s0⟩ := opens_FileS enc w n _ _ (hf 0 _ rfl)
  have e0' : [c0] = [u0] := e0
  obtain rfl := List.singleton_inj.1 e0'
  exact ⟨⟨l0⟩, _, _, g0, rfl, trivial, s0, rfl⟩
theorem opens_Engine : eI 73 Engine := by
 intro H enc w fuel cs x h
 obtain ⟨xs, n, _, hx, hl, hlen, hf⟩ := DataW.trod_struct Tryz.underlying73 h
 have hl' : cs.length = 10 := hl
 have hlen' : xs.length = 7 := hlen
 match cs, hl', xs, hlen' with
 | [c0, c1, c2, c3, c4, c5, c6, c7, c8, c9], _, [y0, y1, y2, y3, y4, y5, y6], _ =>
  obtain ⟨z0, gz0, u0_0, u0_1, g0_0, g0_1, e0, ok0, s0_0, s0_1, _⟩ := opens_Yard enc w n _ _ (hf 0 _ rfl)
  have e0' : [c0, c1, c2, c3] = [I z0.now, I z0.seq, u0_0, u0_1] := e0
  simp only [List.cons.injEq, and_true] at e0'
  obtain ⟨rfl, rfl, rfl, rfl⟩ := e0'
  obtain ⟨z1, gz1, u1_0, g1_0, e1, ok1, s1_0, _⟩ := opens_Disk enc w n _ _ (hf 1 _ rfl)
  have e1' : [c4] = [u1_0] := e1
  simp only [List.cons.injEq, and_true] at e1'
  obtain rfl := e1'
  obtain ⟨n2, e2, _, w2⟩ := DataW.trod_int Tryz.underlying3 (hf 2 _ rfl)
  have e2' : [c5] = [I n2] := e2
  obtain rfl := List.singleton_inj.1 e2'
  obtain ⟨n3, e3, _, w3⟩ := DataW.trod_int Tryz.underlying3 (hf 3 _ rfl)
  have e3' : [c6] = [I n3] := e3
  obtain rfl := List.singleton_inj.1 e3'
  obtain ⟨l4, g4, u4, e4, s4⟩ := opens_WaitS enc w n _ _ (hf 4 _ rfl)
  have e4' : [c7] = [u4] := e4
  obtain rfl := List.singleton_inj.1 e4'
  obtain ⟨n5, e5, _, w5⟩ := DataW.trod_int Tryz.underlying3 (hf 5 _ rfl)
  have e5' : [c8] = [I n5] := e5
  obtain rfl := List.singleton_inj.1 e5'
  obtain ⟨b6, fb6, e6, _⟩ := opens_bool enc w n _ _ (hf 6 _ rfl)
  have e6' : [c9] = [.bool b6] := e6
  obtain rfl := List.singleton_inj.1 e6'
  exact ⟨⟨z0, z1, n2, n3, l4, n5, b6⟩, _, _, _, _, _, g0_0, g0_1, g1_0, g4, rfl, ⟨ok0, bQ w2, bQ w3, bQ w5⟩, s0_0, s0_1, s1_0, s4, rfl⟩
theorem opens_World : eI 92 WorldD := by
 intro H enc w fuel cs x h
 obtain ⟨xs, n, _, hx, hl, hlen, hf⟩ := DataW.trod_struct Tryz.underlying92 h
 have hl' : cs.length = 14 := hl
 have hlen' : xs.length = 5 := hlen
 match cs, hl', xs, hlen' with
 | [c0, c1, c2, c3, c4, c5, c6, c7, c8, c9, c10, c11, c12, c13], _, [y0, y1, y2, y3, y4], _ =>
  obtain ⟨z0, gz0, u0_0, u0_1, u0_2, u0_3, g0_0, g0_1, g0_2, g0_3, e0, ok0, s0_0, s0_1, s0_2, s0_3, _⟩ := opens_Engine enc w n _ _ (hf 0 _ rfl)
  have e0' : [c0, c1, c2, c3, c4, c5, c6, c7, c8, c9] = [I z0.yard.now, I z0.yard.seq, u0_0, u0_1, u0_2, I z0.next, I z0.calls, u0_3, I z0.state, .bool z0.broken] := e0
  simp only [List.cons.injEq, and_true] at e0'
  obtain ⟨rfl, rfl, rfl, rfl, rfl, rfl, rfl, rfl, rfl, rfl⟩ := e0'
  obtain ⟨l1, g1, u1, e1, s1⟩ := opens_DeedS enc w n _ _ (hf 1 _ rfl)
  have e1' : [c10] = [u1] := e1
  obtain rfl := List.singleton_inj.1 e1'
  obtain ⟨l2, g2, u2, e2, s2⟩ := opens_ReplyS enc w n _ _ (hf 2 _ rfl)
  have e2' : [c11] = [u2] := e2
  obtain rfl := List.singleton_inj.1 e2'
  obtain ⟨n3, e3, _, w3⟩ := DataW.trod_int Tryz.underlying3 (hf 3 _ rfl)
  have e3' : [c12] = [I n3] := e3
  obtain rfl := List.singleton_inj.1 e3'
  obtain ⟨n4, e4, _, w4⟩ := DataW.trod_int Tryz.underlying3 (hf 4 _ rfl)
  have e4' : [c13] = [I n4] := e4
  obtain rfl := List.singleton_inj.1 e4'
  exact ⟨⟨z0, l1, l2, n3, n4⟩, _, _, _, _, _, _, _, g0_0, g0_1, g0_2, g0_3, g1, g2, rfl, ⟨ok0, bQ w3, bQ w4⟩, s0_0, s0_1, s0_2, s0_3, s1, s2, rfl⟩
end Go.Proofs.YtanpcpoogkdlaaaGreat
