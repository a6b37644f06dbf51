/-
  The place of the first element that a test takes. Theory alone.
  TasksIn, of the program and of the reference.
  Slices of ints: what is their own is marked and held, two are compared, one is copied; small numbers within bounds.
  AllOver, LeftIn, EnoughFor, of the program and of the reference.
  A store into an element of an owned slice; a made slice, all zeros.
  What is wrong with a plan: of the program and of the reference.
  What a sort leaves of an owned slice of numbers.
  slices.Sort over a slice of numbers of one's own.
  Functions without parameters; slices that are nil, owned out of nothing.
  The tasks before and behind a task: of the program and of the reference.
  When a run is right. Theory alone.
  When a run is right: of the program and of the reference.
  The laws' marks: what is written.
  Runs that are changed in place, of the program.
  A task that fails: what becomes of a right run. Theory alone.
  Rows handled by their block: cap, parts, copies, and what is appended of zeros.
-/
import Derived.Shelf.Sort.Plain
import Derived.Shelf.Slices.In.SortNone
import Derived.Lib.AppendZerosOnto
import Derived.Lib.Overlaps
import Derived.Laws.IdiomCopy
import Derived.Test.YtchnllpegfbleaaGreatQ01
import Derived.Test.YtchnllpegfbleaaGreatQ02
namespace Go.Proofs.YtchnllpegfbleaaGreat
set_option linter.unusedSimpArgs false
set_option linter.unusedVariables false
set_option maxRecDepth 100000
set_option maxHeartbeats 2000000
open Go.RowKit
def fE {α : Type} (p : α → Bool) : List α → Option Nat
 | [] => none
 | x :: xs => if p x then some 0 else (fE p xs).map (· + 1)
theorem jI {α : Type} {p : α → Bool} : ∀ {xs : List α} {k : Nat} (hk : k < xs.length), (xs.take k).any p = false → p xs[k] = true → fE p xs = some k
 | x :: xs, 0, _, _, hp => by simp at hp; simp [fE, hp]
 | x :: xs, k + 1, hk, h, hp => by
  simp only [List.take_succ_cons, List.any_cons, Bool.or_eq_false_iff] at h
  rw [fE, h.1, if_neg (by simp), jI (xs := xs) (k := k) (by simpa using hk) h.2 (by simpa using hp)]
  rfl
theorem jJ {α : Type} {p : α → Bool} : ∀ {xs : List α}, xs.any p = false → fE p xs = none
 | [], _ => rfl
 | x :: xs, h => by
  simp only [List.any_cons, Bool.or_eq_false_iff] at h
  rw [fE, h.1, if_neg (by simp), jJ h.2]; rfl
theorem oE {α : Type} {p : α → Bool} : ∀ {xs : List α} {k : Nat}, fE p xs = some k → ∃ h : k < xs.length, p xs[k] = true
 | x :: xs, k, h => by
  unfold fE at h
  by_cases hx : p x = true
  ·rw [if_pos hx] at h; cases h; exact ⟨by simp, hx⟩
  ·rw [if_neg hx] at h
   cases hq : fE p xs with
   | none => rw [hq] at h; cases h
   | some j =>
    rw [hq] at h
    cases h
    obtain ⟨h1, h2⟩ := oE hq
    exact ⟨by simpa using h1, by simpa using h2⟩
def ixI : Option Nat → Int
 | some k => k
 | none => -1
theorem mU {α : Type} {p : α → Bool} {xs : List α} {k : Nat} (hk : k < xs.length) (h : (xs.take k).any p = false) (hx : p xs[k] = false) : (xs.take (k + 1)).any p = false := by
 rw [List.take_succ_eq_append_getElem hk, List.any_append, h]; simp [hx]
theorem aB5 {α : Type} [DecidableEq α] (y : α) (xs : List α) : decide (0 ≤ ixI (fE (fun x => eqB y x) xs)) = decide (y ∈ xs) := by
 rw [decide_eq_decide]
 cases h : fE (fun x => eqB y x) xs with
 | some k =>
  obtain ⟨hk, hp⟩ := oE h
  have e := eqB_iff.1 hp
  refine ⟨fun _ => ?_, fun _ => by simp [ixI]⟩
  rw [e]; exact List.getElem_mem hk
 | none =>
  refine ⟨fun h2 => by simp [ixI] at h2, fun hm => ?_⟩
  obtain ⟨k, hk, rfl⟩ := List.getElem_of_mem hm
  have : fE (fun x => eqB xs[k] x) xs ≠ none := by
   intro hn
   have key : ∀ (l : List α), fE (fun x => eqB xs[k] x) l = none → xs[k] ∉ l := by
    intro l
    induction l with
    | nil => simp
    | cons a l ih =>
     intro hl hm
     unfold fE at hl
     by_cases ha : eqB xs[k] a = true
     ·rw [if_pos ha] at hl; cases hl
     ·rw [if_neg ha] at hl
      rcases List.mem_cons.1 hm with e | hm
      ·exact ha (dB e)
      ·refine ih ?_ hm
       cases hq : fE (fun x => eqB xs[k] x) l with
       | none => rfl
       | some j => rw [hq] at hl; cases hl
   exact key xs hn (List.getElem_mem hk)
  exact absurd h this
def gW (ts : List Task) (s : Int) (k : Nat) : List Int := (List.range k).filterMap (fun i : Nat => if (ts[i]?).map Task.state = some s then some (i : Int) else none)
def bC (ts : List Task) (s : Int) : List Int := gW ts s ts.length
theorem kZ (ts : List Task) (s : Int) (k : Nat) : (gW ts s k).length ≤ k := by
 unfold gW
 have := List.length_filterMap_le (fun i : Nat => if (ts[i]?).map Task.state = some s then some (i : Int) else none) (List.range k)
 rwa [List.length_range] at this
theorem nT {ts : List Task} {s : Int} {k : Nat} (h : k < ts.length) (hs : ts[k].state = s) : gW ts s (k + 1) = gW ts s k ++ [(k : Int)] := by
 unfold gW
 rw [List.range_succ, List.filterMap_append]
 simp [h, hs]
theorem rK {ts : List Task} {s : Int} {k : Nat} (h : k < ts.length) (hs : ¬ ts[k].state = s) : gW ts s (k + 1) = gW ts s k := by
 unfold gW
 rw [List.range_succ, List.filterMap_append]
 simp [h, hs]
theorem mC (w : World) {r : Run} {cs : List Value} {fp : List Nat} (hc : Shape.C w cs r fp) (s : Int) (hl : r.tasks.length ≤ 1048576) :
  Calls Tryz.prog 162 #[.agg cs.toArray, I s] w fun e w' => ∃ v fp', e = .returned v ∧ St w w' [Res.own v (bC r.tasks s) fp'] := by
 have hk1 := hc
 obtain ⟨v1_0, v1_1, g1_0, g1_1, rfl, hok1, h1_0, h1_1, rfl⟩ := hk1
 refine bR Tryz.func162 rfl Tryz.ntmps162 aX (wp_seq (aA (sg (aJ (cs := [I r.id, I r.plan.prio, I r.plan.most, I r.plan.wait, I r.plan.tasks, v1_0, I r.state, v1_1]) rfl (St.start w) ?_)))); intro b2 W3 hb4 st5
 refine sg (aC (v := .slice none 0 0) rfl (aB (wp_seq (aA (sg (aC (v := .slice none 0 0) rfl (aB (wp_seq (wp_seq (aA (rn st5 4 Ag.nil.put.put.put.put.put [] [(9, v1_1), (10, I (r.tasks.length : Int)), (11, I 0)] [qb 0 rfl 7, ql h1_1] aE fun f12 h12_ => (aB (wp_block ?_)))))))))))))
 have st14 := st5.row_nil (α := Int) 3
 refine aY (fun (m : Nat) (f : Nat → Value) (W : World) => ∃ (k : Nat) (v13 : Value), k ≤ r.tasks.length ∧ m = r.tasks.length - k ∧ Ag [(1, I s), (5, v13), (9, v1_1), (10, I (r.tasks.length : Int)), (11, I (k : Int))] f ∧ St w W ([Res.row (α := Int) 3 v13 (gW r.tasks s k) [], Res.bx b2 [I r.id, I r.plan.prio, I r.plan.most, I r.plan.wait, I r.plan.tasks, v1_0, I r.state, v1_1] 123])) (r.tasks.length - 0) ?_ ?_
 ·exact ⟨0, (.slice none 0 0), (by first | omega | simp), rfl, (h12_.to aE), st14⟩
 intro m16 f17 W18 hJ19
 obtain ⟨k, v13, hcd21_0, rfl, hA21, st20⟩ := hJ19
 have hlen := kZ r.tasks s k
 refine wp_seq (aA (sg (bS (hA21.at 11) (hA21.at 10) (aB (wp_seq (aK rfl (fun h24p => ?_) (fun h24p => ?_)))))))
 ·refine wp_skip (wp_seq (wp_block (wp_seq (aA ?_))))
  have hif4d94 : k < r.tasks.length := aD
  have hq_ := idx h1_1 (i := k) hif4d94
  obtain ⟨b26, o26, cs26, f26, hp26, hr26, hc26, hm26⟩ := hq_
  refine rn st20 3 hA21.put [] [(13, I (k : Int)), (15, .agg cs26.toArray)] [qx hp26, qrw hr26 (Shape.len hc26)] aE fun f27 h27_ => (sg (aR kA st20 ?_)); intro b28 W29 hb30 st31
  refine sg (aC (v := I (k : Int)) (h27_.at 13) (sgn (aO (cs := cs26) kG hc26 rfl (h27_.at 15) st31 rfl ?_))); intro W35 st36
  refine aB (wp_seq (aA ?_))
  have hk38 := hc26
  obtain ⟨he38, rfl, hok38⟩ := hk38
  have he38 : _ = [I (r.tasks[k]'hif4d94).state, I (r.tasks[k]'hif4d94).need, I (r.tasks[k]'hif4d94).try_, I (r.tasks[k]'hif4d94).until_] := he38
  subst he38
  refine rn st36 4 h27_.put.put [] [(19, .bool (decide ((r.tasks[k]'hif4d94).state = s)))] [qb 0 rfl 0, .o] aE fun f39 h39_ => (aB (aK (h39_.at 19) (fun h40p => ?_) (fun h40p => ?_)))
  ·refine aA (sg (aF (v := v13) (h39_.at 5) (sg (aF (v := I (k : Int)) (h39_.at 6) (sg (aT (cs := [I (k : Int)]) (e := 3) (cY (v := I (k : Int)) rfl eA) (bN cZ _ _ rfl rfl aX) st36 ?_)))))); intro b43 W44 hb45 st46
   refine sg (cP (ys := [(k : Int)]) cZ rfl rfl rfl st46.f2 (Elems.int1 (by simp only [I64]; omega)) (by unfold maxLen; omega) aD ?_); intro v49 W50 st51
   refine sg (aC (v := v49) rfl (aB (aA (sg (bY (h39_.at 11) rfl dX (sg (aF (v := I ((k : Int) + 1)) rfl (aB ?_))))))))
   exact ⟨_, r.tasks.length - (k + 1), aD, rfl, k + 1, v49, aD, rfl, (h39_.put.put.put.put.put.put.put.to aE), (by rw [nT aD h40p]; exact st51.f2.f1.d2)⟩
  ·refine wp_skip (aA (sg (bY (h39_.at 11) rfl dX (sg (aF (v := I ((k : Int) + 1)) rfl (aB ?_))))))
   exact ⟨_, r.tasks.length - (k + 1), aD, rfl, k + 1, v13, aD, rfl, (h39_.put.put.to aE), (by rw [rK aD h40p]; exact st36.f2.f2.d2)⟩
 ·refine wp_exit (wp_seq (aA (sg (aF (v := v13) (hA21.at 5) (sg (aC (v := v13) rfl (aB (wr (aL Tryz.results162 rfl ?_)))))))))
  have hq_ := st20.shut
  obtain ⟨fpz, stz⟩ := hq_
  obtain rfl : k = r.tasks.length := by omega
  exact ⟨_, fpz, rfl, stz.only 0 rfl⟩

theorem inB_t {n a b : Int} (h : a ≤ n ∧ n ≤ b) : inB n a b = true := by simp [inB, h]
theorem zX {n a b : Int} (h : ¬ (a ≤ n ∧ n ≤ b)) : inB n a b = false := by simp [inB]; omega
theorem within_any (n a b : Int) (w : World) : Calls Tryz.prog 47 #[.int .i64 n, .int .i64 a, .int .i64 b] w fun e w' => e = .returned (.bool (inB n a b)) ∧ w = w' := by
 by_cases h : a ≤ n
 ·by_cases h2 : n ≤ b
  ·go_enter Tryz.func47, Tryz.ntmps47
   go_wp2
   go_ret
   exact ⟨by rw [inB_t ⟨h, h2⟩]; simp <;> omega, rfl⟩
  ·go_enter Tryz.func47, Tryz.ntmps47
   go_wp2
   go_ret
   exact ⟨by rw [zX aD]; simp <;> omega, rfl⟩
 ·go_enter Tryz.func47, Tryz.ntmps47
  go_wp2
  go_ret
  exact ⟨by rw [zX aD]; simp <;> omega, rfl⟩
theorem l01In_any (n a b : Int) (w : World) : Calls Tryz.prog 43 #[.int .i64 n, .int .i64 a, .int .i64 b] w fun e w' => e = .returned (.bool (inB n a b)) ∧ w = w' := by
 by_cases h : a ≤ n
 ·by_cases h2 : n ≤ b
  ·go_enter Tryz.func43, Tryz.ntmps43
   go_wp2
   go_ret
   exact ⟨by rw [inB_t ⟨h, h2⟩]; simp <;> omega, rfl⟩
  ·go_enter Tryz.func43, Tryz.ntmps43
   go_wp2
   go_ret
   exact ⟨by rw [zX aD]; simp <;> omega, rfl⟩
 ·go_enter Tryz.func43, Tryz.ntmps43
  go_wp2
  go_ret
  exact ⟨by rw [zX aD]; simp <;> omega, rfl⟩
theorem bZ (w : World) (n a b : Int) : Calls Tryz.prog 47 #[I n, I a, I b] w fun e w' => e = .returned (.bool (inB n a b)) ∧ St w w' [] := (within_any n a b w).mono fun e w' ⟨h1, h2⟩ => ⟨h1, by subst h2; exact St.start w⟩
theorem cN (w : World) (n a b : Int) : Calls Tryz.prog 43 #[I n, I a, I b] w fun e w' => e = .returned (.bool (inB n a b)) ∧ St w w' [] := (l01In_any n a b w).mono fun e w' ⟨h1, h2⟩ => ⟨h1, by subst h2; exact St.start w⟩
theorem uU {α : Type} {p : α → Bool} {xs : List α} {k : Nat} (hk : k < xs.length) (h : (xs.take k).any p = false) (hp : p xs[k] = false) : (xs.take (k + 1)).any p = false := by
 rw [List.take_succ_eq_append_getElem hk, List.any_append, h]; simp [hp]
theorem pV {α : Type} (f : α → Nat) (xs : List α) (k : Nat) (h : k < xs.length) : ((xs.take (k + 1)).map f).sum = ((xs.take k).map f).sum + f xs[k] := pN f xs k h
theorem aB0 {α : Type} {f g : α → Nat} (h : ∀ x, f x ≤ g x) : ∀ xs : List α, (xs.map f).sum ≤ (xs.map g).sum
 | [] => by simp
 | x :: xs => by simp only [List.map_cons, List.sum_cons]; have := h x; have := aB0 h xs; omega
theorem jQ {y : Yard} {k : Nat} (h : k < y.runs.length) : y.runs[k].wt + y.runs.length ≤ y.wt := by
 have := pO (fun y : Run => y.wt) y.runs k h
 unfold Yard.wt wtL
 omega
theorem PA.same {v : Value} {k i b o b' o' : Nat} (h : PA v k i b o) (h' : PA v k i b' o') : b = b' ∧ o = o' := by
 obtain ⟨off, len, cap, rfl, _, rfl⟩ := h
 obtain ⟨off', len', cap', e, _, rfl⟩ := h'
 injection e with e1 e2 e3
 injection e1 with e1
 injection e1 with e1 e4
 subst e1 e4
 exact ⟨rfl, rfl⟩
section
variable {P : Program} {n : Nat} {f : Nat → Value} {W w0 : World} {rs : List Res} {Q : Exit → Act → World → Prop} {K : Value → World → Prop}
 {d : Option Tmp} {ty : TypeId} {pos : String} {af : Array Go.Edge} {g : Option (Nat × Bool)} {α : Type} [Shape α]
theorem rN {t : TypeId} {x y : Operand} {b o i : Nat} {v u : Value} {xs : List α} {z : α} {fp : List Nat} (hs : Shape.size α = 1) (hi : (P.info? t).map (·.size) = some 1) (hx : ev n f x = .pointer (some ⟨b, o, none⟩)) (hPA : PA v (Shape.size α) i b o) (hl : i < xs.length) (hy : ev n f y = u) (h1 : u.cells = #[u]) (h2 : u.oneCell' = true)
  (hst : St w0 W (Res.own v xs fp :: rs)) (hc : ∀ W, Shape.C W [u] z []) (k : ∀ fp' W', St w0 W' (Res.own v (xs.set i z) fp' :: rs) → K undef W') : Stp P n ⟨d, .store t x y, ty, pos, af, g⟩ f W Q K := by
 obtain ⟨b', e, pre, cs, post, fi, fr, hPA', hC, st⟩ := St.lend (α := α) aD hst hl
 obtain ⟨rfl, rfl⟩ := hPA.same hPA'
 have hcl := Shape.len hC
 rw [hs] at hcl
 obtain ⟨c, rfl⟩ : ∃ c, cs = [c] := by
  cases cs with
  | nil => simp at hcl
  | cons c cs => cases cs with
   | nil => exact ⟨c, rfl⟩
   | cons _ _ => simp at hcl
 refine bE (i := 0) (C' := [u]) hi hx hy h1 h2 st rfl (Nat.le_refl _) rfl ?_
 intro W' st'
 have st2 := st'.d1
 have st3 := St.cs0 (cs := [u]) (x := z) st2 (hc W')
 have st4 := st3.f1
 obtain ⟨fp', st5⟩ := St.give (α := α) st4
 exact k fp' W' st5
theorem made_list (v : Value) (m : Nat) : (madeCells #[v] m).toList = List.replicate m v := by
 apply List.ext_getElem
 ·rw [Array.length_toList, size_madeCells, List.length_replicate]
 ·intro j h1 h2
  rw [List.getElem_replicate, Array.getElem_toList]
  simp [madeCells, Nat.mod_one]
theorem Elems.rep {W : World} {v : Value} {z : α} (h : Shape.C W [v] z []) : ∀ m, Elems W (List.replicate m v) (List.replicate m z) []
 | 0 => ⟨rfl, rfl⟩
 | m + 1 => ⟨[v], List.replicate m v, [], [], rfl, h, Elems.rep h m, rfl⟩
theorem vJ {t e : TypeId} {bytes : Nat} {x y : Operand} {N : Nat} {v : Value} {z : α} (hT : ApOk P t e α bytes) (hzero : ((P.info? e).bind (·.zero)).map (·.cells) = some #[v]) (hx : ev n f x = I (N : Int)) (hy : ev n f y = I (N : Int)) (hN : N ≤ 1048576 * 64) (hb : N * bytes ≤ 140737488355328) (hst : St w0 W rs) (hz : ∀ W, Shape.C W [v] z [])
  (k : ∀ b fp W', Below W.heap.size W W' → St w0 W' (Res.own (.slice (some ⟨b, 0, none⟩) N N) (List.replicate N z) fp :: rs) → K (.slice (some ⟨b, 0, none⟩) N N) W') : Stp P n ⟨d, .makeSlice t x y, ty, pos, af, g⟩ f W Q K := by
 obtain ⟨i, zz, hi, hzz, h1, h2, h3⟩ := hT.info
 have hzc : zz.cells = #[v] := by simpa [hi, hzz] using hzero
 have hs1 : Shape.size α = 1 := by rw [← h3, hzc]; rfl
 have hb' : (N : Int) * (bytes : Int) ≤ 140737488355328 := by have := Int.ofNat_le.2 hb; rw [Int.natCast_mul] at this; exact this
 have hmk := run_make (P := P) W t e i zz hT.desc hi hzz .i64 .i64 N N aD aD (by rw [h2, Int.mul_comm]; omega) aD
 rw [Int.toNat_natCast, h1, hs1, Nat.mul_one, hzc] at hmk
 refine Stp.run (v := .slice (some ⟨W.heap.size, 0, none⟩) N N) (W' := W.alloc (.cells (madeCells #[v] N) e)) (by simp only [execOp, hx, hy, Sem.run_bind, hmk, Result.andThen_ok]; rfl) ?_
 have h := hst.alloc (madeCells #[v] N).toList e
 rw [Array.toArray_toList] at h
 have hbl : Below W.heap.size W (W.alloc (.cells (madeCells #[v] N) e)) := hU (Below.refl _ _)
 have h' : St w0 (W.alloc (.cells (madeCells #[v] N) e)) (Res.bx W.heap.size (List.replicate N v) e :: rs) := by
  rw [made_list] at h; exact h
 have hr := St.row_lit (α := α) (m := N) (ys := List.replicate N z) h' (by simp) (by unfold maxLen; omega) (Elems.rep (hz _) N)
 obtain ⟨fp, hr2⟩ := hr.shut
 exact k _ fp _ hbl hr2
end
theorem I64_rng {a : Int} (h : 0 ≤ a ∧ a < 4294967296) : I64 a := by unfold I64; omega
theorem zY {out : List Bool} {i : Nat} (h : i < out.length) : out.getD i false = out[i] := by simp [List.getD, h]
section
variable {es : List Edge} {n : Nat} {t : Int} {q : List Int} {out : List Bool} {h i : Nat}
theorem BInv.skip1 (b : BInv es n t q out h i) (hin : EdgesIn n es) (hi : i < es.length) (hh : h < q.length) (hne : ¬ es[i].from_ = q[h]) : BInv es n t q out h (i + 1) :=
 b.skip hin (List.getElem?_eq_getElem hi) (List.getElem?_eq_getElem hh) (fun hc => hne hc.1)
theorem BInv.skip2 (b : BInv es n t q out h i) (hin : EdgesIn n es) (hi : i < es.length) (hh : h < q.length) (hl : es[i].to_.toNat < out.length) (ho : (!out[es[i].to_.toNat]) = false) : BInv es n t q out h (i + 1) :=
 b.skip hin (List.getElem?_eq_getElem hi) (List.getElem?_eq_getElem hh) (fun hc => by have := hc.2; rw [zY hl] at this; rw [this] at ho; cases ho)
theorem BInv.add1 (b : BInv es n t q out h i) (hin : EdgesIn n es) (hi : i < es.length) (hh : h < q.length) (hf : es[i].from_ = q[h]) (hl : es[i].to_.toNat < out.length) (ho : (!out[es[i].to_.toNat]) = true) : BInv es n t (q ++ [es[i].to_]) (out.set es[i].to_.toNat true) h (i + 1) :=
 b.add hin (List.getElem?_eq_getElem hi) (List.getElem?_eq_getElem hh) hf (by rw [zY hl]; simpa using ho)
end
theorem fromOf_len (es : List Edge) (n : Nat) (t : Int) : (mP es n t).length = n := by simp [mP]
theorem wB {es : List Edge} {n : Nat} {t : Int} {k : Nat} (h : k < (mP es n t).length) : (mP es n t)[k] = pB (Rch es t (k : Int)) := by simp [mP]
theorem pM {p : Plan} (h : ¬ cU p) : (1 ≤ p.tasks ∧ p.tasks ≤ 12) ∧ p.edges.length ≤ 30 := by unfold cU at h; omega

theorem IndexE (w : World) {v : Value} {xs : List Edge} {fp : List Nat} (h : Sl w v xs fp) {ds : List Value} {y : Edge} {gp : List Nat} (hd : Shape.C w ds y gp) :
  Calls Tryz.prog 232 #[v, .agg ds.toArray] w fun e w' => e = .returned (I (ixI (fE (fun x => eqB y x) xs))) ∧ St w w' [] := by
 have hcap := h.len_le
 refine bR Tryz.func232 rfl Tryz.ntmps232 aX (wp_seq (aA (sg (aJ (cs := ds) rfl (St.start w) ?_)))); intro b1 W2 hb3 st4
 refine sg (aC (v := I 0) rfl (aB (wp_seq (wp_seq (aA (rn st4 3 Ag.nil.put.put.put.put [] [(7, I (xs.length : Int)), (8, I 0)] [ql h] aE fun f9 h9_ => (aB (wp_block (aY (fun (m : Nat) (f : Nat → Value) (W : World) => ∃ (k : Nat), k ≤ xs.length ∧ (xs.take k).any (fun x => eqB y x) = false ∧ m = xs.length - k ∧ Ag [(0, v), (3, .pointer (some ⟨b1, 0, none⟩)), (7, I (xs.length : Int)), (8, I (k : Int))] f ∧ St w W ([Res.bx b1 ds 176])) (xs.length - 0) ?_ ?_)))))))))
 ·exact ⟨0, Nat.zero_le _, rfl, rfl, (h9_.to aE), st4⟩
 intro m10 f11 W12 hJ13
 obtain ⟨k, hk, hany, rfl, hA15, st14⟩ := hJ13
 refine wp_seq (aA (sg (bS (hA15.at 8) (hA15.at 7) (aB (wp_seq (aK rfl (fun h18p => ?_) (fun h18p => ?_)))))))
 ·refine wp_skip (wp_seq (wp_block (wp_seq (aA (sg (aF (v := I (k : Int)) (hA15.at 8) (sg (aC (v := I (k : Int)) rfl (aB (wp_seq ?_))))))))))
  have hk23 := hd
  obtain ⟨he23, rfl, hok23⟩ := hk23
  have he23 : _ = [I y.from_, I y.to_] := he23
  subst he23
  have hi51fab : k < xs.length := aD
  have hq_ := idx h (i := k) hi51fab
  obtain ⟨b24, o24, cs24, f24, hp24, hr24, hc24, hm24⟩ := hq_
  have hk25 := hc24
  obtain ⟨he25, rfl, hok25⟩ := hk25
  have he25 : _ = [I (xs[k]'hi51fab).from_, I (xs[k]'hi51fab).to_] := he25
  subst he25
  refine oZ [Pl.is (.agg #[I y.from_, I y.to_]), Pl.is (v) (Sl.yl h), Pl.is (I (k : Int)), Pl.is (.pointer (some ⟨b24, o24, none⟩)), Pl.is (.agg #[I (xs[k]'hi51fab).from_, I (xs[k]'hi51fab).to_]), Pl.bool (eqB y (xs[k]'hi51fab))] mix (by rfl) st14 ⟨(fun f W hst hbl hd hf => aV (cs := [I y.from_, I y.to_]) gA rfl ((hf 3 rfl).trans (hA15.at 3)) (hst.get 0 rfl) rfl rfl brq), (fun f W hst hbl hd hf => aF (v := v) ((hf 0 rfl).trans (hA15.at 0)) brq), (fun f W hst hbl hd hf => aF (v := I (k : Int)) ((hf 5 rfl).trans (show _ = I (k : Int) from rfl)) brq), (fun f W hst hbl hd hf => aN iG (hd 1 12 rfl rfl) hp24 (hd 2 13 rfl rfl) rfl brq), (fun f W hst hbl hd hf => fX (cs := [I (xs[k]'hi51fab).from_, I (xs[k]'hi51fab).to_]) gA rfl (hd 3 14 rfl rfl) hr24 hst.below (i := 0) rfl rfl rfl brq), (fun f W hst hbl hd hf => xQ (zO y (xs[k]'hi51fab)) aA0 (hd 0 11 rfl rfl) (hd 4 15 rfl rfl) brq), trivial⟩ ?_
  intro f26 W27 st28 hb29 hv30 hf31
  refine cT (hv30 5 16 aX rfl) (fun h33 => ?_) (fun h33 => ?_)
  ·refine wp_seq (aA (sg (aF (v := I (k : Int)) ((hf31 5 rfl).trans (show _ = I (k : Int) from rfl)) (sg (aC (v := I (k : Int)) rfl (aB (wr (aL Tryz.results232 rfl ?_))))))))
   exact ⟨(fI (by rw [jI aD hany h33]; try rfl)), st28.bare⟩
  ·refine wp_skip (aA (sg (bY ((hf31 8 rfl).trans (hA15.at 8)) rfl dX (sg (aF (v := I ((k : Int) + 1)) rfl (aB ?_))))))
   exact ⟨_, xs.length - (k + 1), aD, rfl, k + 1, aD, (mU aD hany h33), rfl, (Ag.cons ((hf31 0 rfl).trans (hA15.at 0)) (Ag.cons ((hf31 3 rfl).trans (hA15.at 3)) (Ag.cons ((hf31 7 rfl).trans (hA15.at 7)) (Ag.cons rfl Ag.nil)))), st28⟩
 ·refine wp_exit (wp_seq (aA (sg (aC (v := I (-1)) rfl (aB (wr (aL Tryz.results232 rfl ?_)))))))
  obtain rfl : k = xs.length := by omega
  rw [List.take_length] at hany
  exact ⟨(fI (by rw [jJ hany]; try rfl)), st14.bare⟩
theorem ContE (w : World) {v : Value} {xs : List Edge} {fp : List Nat} (h : Sl w v xs fp) {ds : List Value} {y : Edge} {gp : List Nat} (hd : Shape.C w ds y gp) :
  Calls Tryz.prog 215 #[v, .agg ds.toArray] w fun e w' => e = .returned (.bool (decide (y ∈ xs))) ∧ St w w' [] := by
 refine bR Tryz.func215 rfl Tryz.ntmps215 aX (wp_seq (aA (sg (aJ (cs := ds) rfl (St.start w) ?_)))); intro b1 W2 hb3 st4
 refine sg (aC (v := .bool false) rfl (aB (wp_seq (aA (rc st4 5 Ag.nil.put.put.put.put [4] [(4, .bool (decide (0 ≤ (ixI (fE (fun x => eqB y x) xs)))))] [qw 0 rfl (Shape.len hd), qc Tryz.func232 rfl (fun W s b => IndexE W (h.below s.below) hd), .o] aE fun f9 W10 h9_ st11 hb12 => (aB (wr (aL Tryz.results215 (h9_.at 4) ?_))))))))
 exact ⟨(fB (aB5 y xs)), st11.bare⟩
theorem WaitsI (w : World) {p : Plan} {cs : List Value} {fp : List Nat} (hc : Shape.C w cs p fp) (hn : 1 ≤ p.tasks ∧ p.tasks ≤ 12) (hl : p.edges.length ≤ 30) (hi : EdgesIn p.tasks.toNat p.edges) :
  Calls Tryz.prog 216 #[.agg cs.toArray] w fun e w' => ∃ (v : Value) (fp' : List Nat), e = .returned v ∧ St w w' [Res.own v (eL (dS p.edges (List.replicate p.tasks.toNat 0) p.tasks.toNat)) fp'] := by
 refine cR Tryz.func216 rfl Tryz.ntmps216 aX (wp_seq (aA (sg (aJ (cs := cs) rfl (St.start w) ?_)))); intro b1 W2 hb3 st4
 refine sg (aC (v := .slice none 0 0) rfl (aB (wp_seq (aA ?_))))
 have hk9 := hc
 obtain ⟨v9_0, g9_0, rfl, hok9, h9_0, rfl⟩ := hk9
 refine sg (aH wG rfl (sg (aU eF rfl rfl (st4.get 0 rfl) (i := 3) rfl rfl ?_)))
 have hNI : I p.tasks = I ((p.tasks.toNat : Nat) : Int) := congrArg I (Int.toNat_of_nonneg aD).symm
 refine sg (vJ (α := Int) (N := p.tasks.toNat) (v := I 0) (z := 0) cZ aE ((show _ = I p.tasks from rfl).trans hNI) ((show _ = I p.tasks from rfl).trans hNI) aD aD st4 (fun W => ⟨rfl, rfl, by unfold I64; omega⟩) ?_); intro b11 fp15 W12 hb13 st14
 refine sg (aC (v := (.slice (some ⟨b11, 0, none⟩) p.tasks.toNat p.tasks.toNat)) rfl (aB (wp_seq (wp_seq (aA (rn st14 3 (Ag.up (t := 7) (v := I (p.tasks.toNat : Int)) ((show _ = I p.tasks from rfl).trans hNI) Ag.nil.put.put.put.put.put.put.put) [] [(10, I p.tasks), (11, I 0)] [qb 1 rfl 3] aE fun f20 h20_ => (aB (wp_block (aY (fun (m : Nat) (f : Nat → Value) (W : World) => ∃ (k : Nat) (fo21 : List Nat), k ≤ p.tasks.toNat ∧ m = p.tasks.toNat - k ∧ Ag [(1, .pointer (some ⟨b1, 0, none⟩)), (3, (.slice (some ⟨b11, 0, none⟩) p.tasks.toNat p.tasks.toNat)), (10, I p.tasks), (11, I (k : Int))] f ∧ St w W ([Res.own (α := List Int) (.slice (some ⟨b11, 0, none⟩) p.tasks.toNat p.tasks.toNat) (eL (dS p.edges (List.replicate p.tasks.toNat 0) k)) fo21, Res.bx b1 [I p.prio, I p.most, I p.wait, I p.tasks, v9_0] 106])) (p.tasks.toNat - 0) ?_ ?_)))))))))
 ·exact ⟨0, fp15, (by first | omega | simp), rfl, (h20_.to aE), (by have hz := st14; rw [castL_rep] at hz; exact hz)⟩
 intro m22 f23 W24 hJ25
 obtain ⟨k, fo21, hcd27_0, rfl, hA27, st26⟩ := hJ25
 refine wp_seq (aA (sg (bS (hA27.at 11) (hA27.at 10) (aB (wp_seq (aK rfl (fun h30p => ?_) (fun h30p => ?_)))))))
 ·refine wp_skip (wp_seq (wp_block (wp_seq (aA (rn st26 4 hA27.put [] [(14, v9_0), (15, I (p.edges.length : Int)), (16, I 0)] [qb 1 rfl 4, ql h9_0] aE fun f32 h32_ => (aB (wp_block (aY (fun (m : Nat) (f : Nat → Value) (W : World) => ∃ (i : Nat) (fo33 : List Nat), i ≤ p.edges.length ∧ m = p.edges.length - i ∧ Ag [(1, .pointer (some ⟨b1, 0, none⟩)), (3, (.slice (some ⟨b11, 0, none⟩) p.tasks.toNat p.tasks.toNat)), (10, I p.tasks), (11, I (k : Int)), (14, v9_0), (15, I (p.edges.length : Int)), (16, I (i : Int))] f ∧ St w W ([Res.own (α := List Int) (.slice (some ⟨b11, 0, none⟩) p.tasks.toNat p.tasks.toNat) (eL (hG (p.edges.take i) (dS p.edges (List.replicate p.tasks.toNat 0) k))) fo33, Res.bx b1 [I p.prio, I p.most, I p.wait, I p.tasks, v9_0] 106])) (p.edges.length - 0) ?_ ?_))))))))
  ·exact ⟨0, fo21, (by first | omega | simp), rfl, (h32_.to aE), st26⟩
  intro m34 f35 W36 hJ37
  obtain ⟨i, fo33, hcd39_0, rfl, hA39, st38⟩ := hJ37
  refine wp_seq (aA (sg (bS (hA39.at 16) (hA39.at 15) (aB (wp_seq (aK rfl (fun h42p => ?_) (fun h42p => ?_)))))))
  ·refine wp_skip (wp_seq (wp_block (wp_seq (aA ?_))))
   have hi99fa3 : i < p.edges.length := aD
   have hq_ := idx h9_0 (i := i) hi99fa3
   obtain ⟨b43, o43, cs43, f43, hp43, hr43, hc43, hm43⟩ := hq_
   refine sg (aN iG (hA39.at 14) hp43 (hA39.at 16) rfl (sg (dL gA rfl rfl hr43 st38.below (Shape.len hc43) (sg (aR kX st38 ?_))))); intro b46 W47 hb48 st49
   refine sgn (aO (cs := cs43) gA hc43 rfl rfl st49 rfl ?_); intro W51 st52
   refine aB ?_
   have hk53 := hc43
   obtain ⟨he53, rfl, hok53⟩ := hk53
   have he53 : _ = [I (p.edges[i]'hi99fa3).from_, I (p.edges[i]'hi99fa3).to_] := he53
   subst he53
   have hea := hi.at (k := i) aD
   have hxl : (eL (hG (p.edges.take i) (dS p.edges (List.replicate p.tasks.toNat 0) k))).length = p.tasks.toNat := by rw [wK, rT, jE, List.length_replicate]
   have hbd := tR (n := p.tasks.toNat) aD (es := p.edges.take i) (fun e he => hi e (List.mem_of_mem_take he)) (vP aD hi k)
   have hi3a21e : ((p.edges[i]'hi99fa3).from_).toNat < (eL (hG (p.edges.take i) (dS p.edges (List.replicate p.tasks.toNat 0) k))).length := aD
   have hq_ := idx (aI (st52.get 1 rfl)) (i := ((p.edges[i]'hi99fa3).from_).toNat) hi3a21e
   obtain ⟨b54, o54, cs54, f54, hp54, hr54, hc54, hm54⟩ := hq_
   have hk54 := hc54
   obtain ⟨rfl, rfl, hok54⟩ := hk54
   have hid0fd1 : ((p.edges[i]'hi99fa3).to_).toNat < (eL (hG (p.edges.take i) (dS p.edges (List.replicate p.tasks.toNat 0) k))).length := aD
   have hq_ := idx (aI (st52.get 1 rfl)) (i := ((p.edges[i]'hi99fa3).to_).toNat) hid0fd1
   obtain ⟨b55, o55, cs55, f55, hp55, hr55, hc55, hm55⟩ := hq_
   have hk55 := hc55
   obtain ⟨rfl, rfl, hok55⟩ := hk55
   refine sS 16 [Pl.is ((.slice (some ⟨b11, 0, none⟩) p.tasks.toNat p.tasks.toNat)) (Sl.yl (aI (st52.get 1 rfl))), Pl.is (.pointer (some ⟨b46, 0 + 0, none⟩)), Pl.is (I (p.edges[i]'hi99fa3).from_), Pl.is (.pointer (some ⟨b54, o54, none⟩)), Pl.is (I ((eL (hG (p.edges.take i) (dS p.edges (List.replicate p.tasks.toNat 0) k)))[((p.edges[i]'hi99fa3).from_).toNat]'hi3a21e)), Pl.is (.pointer (some ⟨b46, 0 + 1, none⟩)), Pl.is (I (p.edges[i]'hi99fa3).to_), Pl.is (I (vC (p.edges[i]'hi99fa3).to_)), Pl.is ((.slice (some ⟨b11, 0, none⟩) p.tasks.toNat p.tasks.toNat)) (Sl.yl (aI (st52.get 1 rfl))), Pl.is (.pointer (some ⟨b46, 0 + 1, none⟩)), Pl.is (I (p.edges[i]'hi99fa3).to_), Pl.is (.pointer (some ⟨b55, o55, none⟩)), Pl.is (I ((eL (hG (p.edges.take i) (dS p.edges (List.replicate p.tasks.toNat 0) k)))[((p.edges[i]'hi99fa3).to_).toNat]'hid0fd1)), Pl.is (I (orI (vC (p.edges[i]'hi99fa3).to_) ((eL (hG (p.edges.take i) (dS p.edges (List.replicate p.tasks.toNat 0) k)))[((p.edges[i]'hi99fa3).to_).toNat]'hid0fd1))), Pl.is (I (orI ((eL (hG (p.edges.take i) (dS p.edges (List.replicate p.tasks.toNat 0) k)))[((p.edges[i]'hi99fa3).from_).toNat]'hi3a21e) (orI (vC (p.edges[i]'hi99fa3).to_) ((eL (hG (p.edges.take i) (dS p.edges (List.replicate p.tasks.toNat 0) k)))[((p.edges[i]'hi99fa3).to_).toNat]'hid0fd1)))), Pl.is (.pointer (some ⟨b54, o54, none⟩))] mix (by rfl) (by rfl) st52 ⟨(fun f W hst hbl hd hf => aF (v := (.slice (some ⟨b11, 0, none⟩) p.tasks.toNat p.tasks.toNat)) ((hf 3 rfl).trans (hA39.at 3)) brq), (fun f W hst hbl hd hf => aH rZ ((hf 5 rfl).trans (show _ = (.pointer (some ⟨b46, 0, none⟩) : Value) from rfl)) brq), (fun f W hst hbl hd hf => aU eF rfl (hd 1 21 rfl rfl) (hst.get 0 rfl) (i := 0) rfl rfl brq), (fun f W hst hbl hd hf => aN eP (hd 0 20 rfl rfl) hp54 (hd 2 22 rfl rfl) aD brq), (fun f W hst hbl hd hf => eV eF rfl (hd 3 23 rfl rfl) hr54 hbl (i := 0) rfl rfl brq), (fun f W hst hbl hd hf => aH rY ((hf 5 rfl).trans (show _ = (.pointer (some ⟨b46, 0, none⟩) : Value) from rfl)) brq), (fun f W hst hbl hd hf => aU eF rfl (hd 5 25 rfl rfl) (hst.get 0 rfl) (i := 1) rfl rfl brq), (fun f W hst hbl hd hf => stp_shlI rfl (hd 6 26 rfl rfl) aD brq), (fun f W hst hbl hd hf => aF (v := (.slice (some ⟨b11, 0, none⟩) p.tasks.toNat p.tasks.toNat)) ((hf 3 rfl).trans (hA39.at 3)) brq), (fun f W hst hbl hd hf => aH rY ((hf 5 rfl).trans (show _ = (.pointer (some ⟨b46, 0, none⟩) : Value) from rfl)) brq), (fun f W hst hbl hd hf => aU eF rfl (hd 9 29 rfl rfl) (hst.get 0 rfl) (i := 1) rfl rfl brq), (fun f W hst hbl hd hf => aN eP (hd 8 28 rfl rfl) hp55 (hd 10 30 rfl rfl) aD brq), (fun f W hst hbl hd hf => eV eF rfl (hd 11 31 rfl rfl) hr55 hbl (i := 0) rfl rfl brq), (fun f W hst hbl hd hf => zI (hd 7 27 rfl rfl) (hd 12 32 rfl rfl) (tG aD) (jK hbd _ _) brq), (fun f W hst hbl hd hf => zI (hd 4 24 rfl rfl) (hd 13 33 rfl rfl) (jK hbd _ _) (xA (tG aD) (jK hbd _ _)) brq), (fun f W hst hbl hd hf => aN eP (hd 0 20 rfl rfl) hp54 (hd 2 22 rfl rfl) aD brq), trivial⟩ ?_
   intro f56 W57 st58 hb59 hv60 hf61
   refine sgn (rN (α := Int) (z := orI ((eL (hG (p.edges.take i) (dS p.edges (List.replicate p.tasks.toNat 0) k)))[((p.edges[i]'hi99fa3).from_).toNat]'hi3a21e) (orI (vC (p.edges[i]'hi99fa3).to_) ((eL (hG (p.edges.take i) (dS p.edges (List.replicate p.tasks.toNat 0) k)))[((p.edges[i]'hi99fa3).to_).toNat]'hid0fd1))) rfl aE (hv60 15 35 aX rfl) hp54 hi3a21e (hv60 14 34 aX rfl) rfl rfl st58.f1 (fun W => ⟨rfl, rfl, (I64_rng (xA (jK hbd _ _) (xA (tG aD) (jK hbd _ _))))⟩) ?_); intro fp64 W65 st66
   refine aB (aA (sg (bY ((hf61 16 rfl).trans (hA39.at 16)) rfl dX (sg (aF (v := I ((i : Int) + 1)) rfl (aB ?_))))))
   exact ⟨_, p.edges.length - (i + 1), aD, rfl, i + 1, fp64, aD, rfl, (Ag.cons ((hf61 1 rfl).trans (hA39.at 1)) (Ag.cons ((hf61 3 rfl).trans (hA39.at 3)) (Ag.cons ((hf61 10 rfl).trans (hA39.at 10)) (Ag.cons ((hf61 11 rfl).trans (hA39.at 11)) (Ag.cons ((hf61 14 rfl).trans (hA39.at 14)) (Ag.cons ((hf61 15 rfl).trans (hA39.at 15)) (Ag.cons rfl Ag.nil))))))), (by rw [relax_snoc _ _ _ aD, ← castL_relax1 (m := (hG (p.edges.take i) (dS p.edges (List.replicate p.tasks.toNat 0) k))) (e := p.edges[i]) aD aD aD]; exact st66.f2.f1.d2)⟩
  ·refine wp_exit (aA (sg (bY (hA39.at 11) rfl dX (sg (aF (v := I ((k : Int) + 1)) rfl (aB ?_))))))
   exact ⟨_, p.tasks.toNat - (k + 1), aD, rfl, k + 1, fo33, aD, rfl, (hA39.put.put.put.to aE), (by rw [show dS p.edges (List.replicate p.tasks.toNat 0) (k + 1) = hG (p.edges.take i) (dS p.edges (List.replicate p.tasks.toNat 0) k) from by rw [show i = p.edges.length by omega, List.take_length]; rfl]; exact st38)⟩
 ·refine wp_exit (wp_seq (aA (sg (aF (v := (.slice (some ⟨b11, 0, none⟩) p.tasks.toNat p.tasks.toNat)) (hA27.at 3) (sg (aC (v := (.slice (some ⟨b11, 0, none⟩) p.tasks.toNat p.tasks.toNat)) rfl (aB (wr (aL Tryz.results216 rfl ?_)))))))))
  obtain rfl : k = p.tasks.toNat := by omega
  exact ⟨_, _, rfl, st26.only 0 rfl⟩
theorem FromS (w : World) {p : Plan} {cs : List Value} {fp : List Nat} (hc : Shape.C w cs p fp) (t : Int) (hn : 1 ≤ p.tasks ∧ p.tasks ≤ 12) (hl : p.edges.length ≤ 30) (hi : EdgesIn p.tasks.toNat p.edges) (ht : 0 ≤ t ∧ t < p.tasks) :
  Calls Tryz.prog 213 #[.agg cs.toArray, I t] w fun e w' => ∃ (v : Value) (fp' : List Nat), e = .returned v ∧ St w w' [Res.own v (mP p.edges p.tasks.toNat t) fp'] := by
 refine bR Tryz.func213 rfl Tryz.ntmps213 aX (wp_seq (aA (sg (aJ (cs := cs) rfl (St.start w) ?_)))); intro b1 W2 hb3 st4
 refine sg (aC (v := .slice none 0 0) rfl (aB (wp_seq (aA ?_))))
 have hk9 := hc
 obtain ⟨v9_0, g9_0, rfl, hok9, h9_0, rfl⟩ := hk9
 refine sg (aH wG rfl (sg (aU eF rfl rfl (st4.get 0 rfl) (i := 3) rfl rfl ?_)))
 have hNI : I p.tasks = I ((p.tasks.toNat : Nat) : Int) := congrArg I (Int.toNat_of_nonneg aD).symm
 refine sg (vJ (α := Bool) (N := p.tasks.toNat) (v := .bool false) (z := false) ap_boolS aE ((show _ = I p.tasks from rfl).trans hNI) ((show _ = I p.tasks from rfl).trans hNI) aD aD st4 (fun W => ⟨rfl, rfl, trivial⟩) ?_); intro b11 fp15 W12 hb13 st14
 refine sg (aC (v := (.slice (some ⟨b11, 0, none⟩) p.tasks.toNat p.tasks.toNat)) rfl (aB (wp_seq (aA (sg (aF (v := I t) rfl (sg (aT (cs := [I t]) (e := 3) (cY (v := I t) rfl eA) (bN cZ _ _ rfl rfl aX) st14 ?_)))))))); intro b21 W22 hb23 st24
 refine sg (aC (v := .slice (some ⟨b21, 0, none⟩) 1 1) rfl (aB (wp_seq (wp_seq (aA (sg (aC (v := I 0) rfl (aB (wp_block ?_)))))))))
 have st30 := St.row_lit (α := Int) (ys := [t]) st24 rfl bP (Elems.ic dX Elems.i0)
 refine aY (fun (m : Nat) (f : Nat → Value) (W : World) => ∃ (q : List Int) (out : List Bool) (h : Nat) (v31 : Value) (fo32 : List Nat), BInv p.edges p.tasks.toNat t q out h 0 ∧ h ≤ q.length ∧ m = p.tasks.toNat + 2 - h ∧ Ag [(2, .pointer (some ⟨b1, 0, none⟩)), (5, (.slice (some ⟨b11, 0, none⟩) p.tasks.toNat p.tasks.toNat)), (6, v31), (7, I (h : Int))] f ∧ St w W ([Res.row (α := Int) 3 v31 q [], Res.own (α := List Bool) (.slice (some ⟨b11, 0, none⟩) p.tasks.toNat p.tasks.toNat) out fo32, Res.bx b1 [I p.prio, I p.most, I p.wait, I p.tasks, v9_0] 106])) (p.tasks.toNat + 2 - 0) ?_ ?_
 ·exact ⟨[t], (List.replicate p.tasks.toNat false), 0, (.slice (some ⟨b21, 0, none⟩) 1 1), fp15, BInv.start, (by simp), rfl, ((Ag.up (t := 11) (v := I (p.tasks.toNat : Int)) ((show _ = I p.tasks from rfl).trans hNI) Ag.nil.put.put.put.put.put.put.put.put.put.put.put.put).to aE), st30⟩
 intro m33 f34 W35 hJ36
 obtain ⟨q, out, h, v31, fo32, hB, hh, rfl, hA38, st37⟩ := hJ36
 have hBl := hB.len_le
 refine wp_seq (wp_seq (aA (rn st37 4 hA38 [] [(18, .bool (decide ((h : Int) < (q.length : Int))))] [ql (bW (st37.get 0 rfl)), .o] aE fun f40 h40_ => (aB (aK (h40_.at 18) (fun h41p => ?_) (fun h41p => ?_))))))
 ·refine wp_skip (wp_seq (wp_block (wp_seq (aA (sg (aC (v := I 0) rfl (aB (wp_block (aY (fun (m : Nat) (f : Nat → Value) (W : World) => ∃ (q2 : List Int) (out2 : List Bool) (i : Nat) (v44 : Value) (fo45 : List Nat), BInv p.edges p.tasks.toNat t q2 out2 h i ∧ h < q2.length ∧ i ≤ p.edges.length ∧ m = p.edges.length - i ∧ Ag [(2, .pointer (some ⟨b1, 0, none⟩)), (5, (.slice (some ⟨b11, 0, none⟩) p.tasks.toNat p.tasks.toNat)), (6, v44), (7, I (h : Int)), (8, I (i : Int))] f ∧ St w W ([Res.row (α := Int) 3 v44 q2 [], Res.own (α := List Bool) (.slice (some ⟨b11, 0, none⟩) p.tasks.toNat p.tasks.toNat) out2 fo45, Res.bx b1 [I p.prio, I p.most, I p.wait, I p.tasks, v9_0] 106])) (p.edges.length - 0) ?_ ?_)))))))))
  ·exact ⟨q, out, 0, v31, fo32, hB, aD, aD, rfl, (h40_.put.to aE), st37⟩
  intro m46 f47 W48 hJ49
  obtain ⟨q2, out2, i, v44, fo45, hB2, hh2, hi2, rfl, hA51, st50⟩ := hJ49
  have hBl2 := hB2.len_le
  have hol2 := hB2.len
  refine wp_seq (wp_seq (aA (rn st50 5 hA51 [] [(25, .bool (decide ((i : Int) < (p.edges.length : Int))))] [qb 2 rfl 4, ql h9_0, .o] aE fun f53 h53_ => (aB (aK (h53_.at 25) (fun h54p => ?_) (fun h54p => ?_))))))
  ·refine wp_skip (wp_seq (wp_block (wp_seq (aA ?_))))
   have hi99fa3 : i < p.edges.length := aD
   have hq_ := idx h9_0 (i := i) hi99fa3
   obtain ⟨b56, o56, cs56, f56, hp56, hr56, hc56, hm56⟩ := hq_
   refine rn st50 5 h53_ [] [(32, .agg cs56.toArray)] [qb 2 rfl 4, qx hp56, qrw hr56 (Shape.len hc56)] aE fun f57 h57_ => (sg (aR kX st50 ?_)); intro b58 W59 hb60 st61
   refine sgn (aO (cs := cs56) gA hc56 rfl (h57_.at 32) st61 rfl ?_); intro W63 st64
   refine aB (wp_seq ?_)
   have hi8f4b8 : h < q2.length := aD
   rcases nem ((p.edges[i]'hi99fa3).from_ = (q2[h]'hi8f4b8)) with h68p | h68p
   ·have h68 := decide_eq_false h68p
    have hea := hi.at (k := i) aD
    have hk70 := hc56
    obtain ⟨he70, rfl, hok70⟩ := hk70
    have he70 : _ = [I (p.edges[i]'hi99fa3).from_, I (p.edges[i]'hi99fa3).to_] := he70
    subst he70
    have hi8f4b8 : h < q2.length := aD
    have hq_ := idx (bW (st64.get 1 rfl)) (i := h) hi8f4b8
    obtain ⟨b71, o71, cs71, f71, hp71, hr71, hc71, hm71⟩ := hq_
    have hk71 := hc71
    obtain ⟨rfl, rfl, hok71⟩ := hk71
    refine rd st64 h57_.put [] [(47, .bool false)] [qb 0 rfl 0, qx hp71, qn hr71 0, qk h68] aE aE fun f72 W73 h72_ st74 hb75 => (gK (h72_.at 47) rfl (wp_skip (aA (rn st74 3 h72_ [8] [(8, I ((i : Int) + 1))] [qad (i : Int) 1] aE fun f77 h77_ => (aB ?_)))))
    exact ⟨_, p.edges.length - (i + 1), aD, rfl, q2, out2, i + 1, v44, fo45, (hB2.skip1 hi aD aD h68p), aD, aD, rfl, (h77_.to aE), st74.f3.f3.f3.d3⟩
   ·have h68 := decide_eq_true h68p
    have hea := hi.at (k := i) aD
    have hk83 := hc56
    obtain ⟨he83, rfl, hok83⟩ := hk83
    have he83 : _ = [I (p.edges[i]'hi99fa3).from_, I (p.edges[i]'hi99fa3).to_] := he83
    subst he83
    have hi8f4b8 : h < q2.length := aD
    have hq_ := idx (bW (st64.get 1 rfl)) (i := h) hi8f4b8
    obtain ⟨b84, o84, cs84, f84, hp84, hr84, hc84, hm84⟩ := hq_
    have hk84 := hc84
    obtain ⟨rfl, rfl, hok84⟩ := hk84
    have hi76505 : ((p.edges[i]'hi99fa3).to_).toNat < out2.length := aD
    have hq_ := idx (aI (st64.get 2 rfl)) (i := ((p.edges[i]'hi99fa3).to_).toNat) hi76505
    obtain ⟨b85, o85, cs85, f85, hp85, hr85, hc85, hm85⟩ := hq_
    have hk85 := hc85
    obtain ⟨rfl, rfl, hok85⟩ := hk85
    refine rd st64 h57_.put [] [(47, .bool (!(out2[((p.edges[i]'hi99fa3).to_).toNat]'hi76505)))] [qb 0 rfl 0, qx hp84, qn hr84 0, qk h68, qb 0 rfl 1, qxe hp85 (e := (p.edges[i]'hi99fa3).to_) aD, qn hr85 0, .o] aE aE fun f86 W87 h86_ st88 hb89 => (cT (h86_.at 47) (fun h90 => ?_) (fun h90 => ?_))
    ·refine wp_seq (aA ?_)
     have hi76505 : ((p.edges[i]'hi99fa3).to_).toNat < out2.length := aD
     have hq_ := idx (aI (st88.get 2 rfl)) (i := ((p.edges[i]'hi99fa3).to_).toNat) hi76505
     obtain ⟨b92, o92, cs92, f92, hp92, hr92, hc92, hm92⟩ := hq_
     have hk92 := hc92
     obtain ⟨rfl, rfl, hok92⟩ := hk92
     refine rn st88 4 h86_ [] [(51, .pointer (some ⟨b92, o92, none⟩))] [qb 0 rfl 1, qxe hp92 (e := (p.edges[i]'hi99fa3).to_) aD] aE fun f93 h93_ => (sgn (rN (α := Bool) (z := true) rfl aE (h93_.at 51) hp92 hi76505 rfl rfl rfl st88.f2 (fun W => ⟨rfl, rfl, trivial⟩) ?_)); intro fp95 W96 st97
     refine aB (aA (rn st97 3 h93_ [] [(52, v44), (54, I (p.edges[i]'hi99fa3).to_)] [qb 1 rfl 1] aE fun f99 h99_ => (sg (aT (cs := [I (p.edges[i]'hi99fa3).to_]) (e := 3) (cY (v := I (p.edges[i]'hi99fa3).to_) (h99_.at 54) eA) (bN cZ _ _ rfl rfl aX) st97 ?_)))); intro b100 W101 hb102 st103
     have hxx := hB2.add1 hi aD aD (by assumption) aD (by assumption)
     have hxl := hxx.len_le
     rw [List.length_append] at hxl
     refine sg (cP (ys := [(p.edges[i]'hi99fa3).to_]) cZ (h99_.at 52) rfl rfl st103.f3 (Elems.ic (by simp only [I64]; omega) Elems.i0) (by unfold maxLen; omega) aD ?_); intro v106 W107 st108
     refine sg (aC (v := v106) rfl (aB (aA (rn st108 3 h99_.put.put.put [8] [(8, I ((i : Int) + 1))] [qad (i : Int) 1] aE fun f112 h112_ => (aB ?_)))))
     exact ⟨_, p.edges.length - (i + 1), aD, rfl, q2 ++ [(p.edges[i]'hi99fa3).to_], (out2).set ((p.edges[i]'hi99fa3).to_).toNat true, i + 1, v106, fp95, (hB2.add1 hi aD aD h68p aD h90), (by rw [List.length_append]; omega), aD, rfl, (h112_.to aE), st108.f3.f2.f2.d3⟩
    ·refine wp_skip (aA (rn st88 3 h86_ [8] [(8, I ((i : Int) + 1))] [qad (i : Int) 1] aE fun f118 h118_ => (aB ?_)))
     exact ⟨_, p.edges.length - (i + 1), aD, rfl, q2, out2, i + 1, v44, fo45, (hB2.skip2 hi aD aD aD h90), aD, aD, rfl, (h118_.to aE), st88.f3.f3.f3.d3⟩
  ·refine wp_exit (aA (rn st50 3 h53_ [7] [(7, I ((h : Int) + 1))] [qad (h : Int) 1] aE fun f124 h124_ => (aB ?_)))
   exact ⟨_, p.tasks.toNat + 2 - (h + 1), aD, rfl, q2, out2, h + 1, v44, fo45, (hB2.next aD), aD, rfl, (h124_.to aE), st50⟩
 ·refine wp_exit (wp_seq (aA (sg (aF (v := (.slice (some ⟨b11, 0, none⟩) p.tasks.toNat p.tasks.toNat)) (h40_.at 5) (sg (aC (v := (.slice (some ⟨b11, 0, none⟩) p.tasks.toNat p.tasks.toNat)) rfl (aB (wr (aL Tryz.results213 rfl ?_)))))))))
  have st127 := st37.f1
  have hall := hB.all aD
  rw [hall] at st127
  exact ⟨_, _, rfl, st127.only 0 rfl⟩
theorem ManyS (w : World) {p : Plan} {cs : List Value} {fp : List Nat} (hc : Shape.C w cs p fp) :
  Calls Tryz.prog 212 #[.agg cs.toArray] w fun e w' => e = .returned (.bool (pB (cU p))) ∧ St w w' [] := by
 refine cR Tryz.func212 rfl Tryz.ntmps212 aX (wp_seq (aA (sg (aJ (cs := cs) rfl (St.start w) ?_)))); intro b1 W2 hb3 st4
 refine sg (aC (v := .bool false) rfl (aB (wp_seq (aA ?_))))
 have hk9 := hc
 obtain ⟨v9_0, g9_0, rfl, hok9, h9_0, rfl⟩ := hk9
 rcases bd (!(inB p.tasks 1 12)) with h10 | h10
 ·have h10p := inB_iff'.1 (bG h10)
  rcases nem (30 < (p.edges.length : Int)) with h11p | h11p
  ·have h11 := decide_eq_false h11p
   rcases bd (!(inB p.prio 0 9)) with h12 | h12
   ·have h12p := inB_iff'.1 (bG h12)
    rcases bd (!(inB p.most 1 5)) with h13 | h13
    ·have h13p := inB_iff'.1 (bG h13)
     refine rc st4 29 Ag.nil.put.put.put [2] [(2, .bool (!(inB p.wait 1 20)))] [qb 0 rfl 3, qc Tryz.func43 rfl (fun W s b => cN W p.tasks 1 12), qk h10, qb 0 rfl 4, ql h9_0, qk h11, qb 0 rfl 0, qc Tryz.func43 rfl (fun W s b => cN W p.prio 0 9), qk h12, qb 0 rfl 1, qc Tryz.func43 rfl (fun W s b => cN W p.most 1 5), qk h13, qb 0 rfl 2, qc Tryz.func43 rfl (fun W s b => cN W p.wait 1 20), .o] aE fun f14 W15 h14_ st16 hb17 => (aB ?_)
     rcases bd (!(inB p.wait 1 20)) with h18 | h18
     ·have h18p := inB_iff'.1 (bG h18)
      refine wr (aL Tryz.results212 ((h14_.at 2).trans (congrArg Value.bool h18)) ?_)
      exact ⟨(fB (by rw [cQ (by unfold cU; omega)])), st16.bare⟩
     ·have h18p := cJ (aW h18)
      refine wr (aL Tryz.results212 ((h14_.at 2).trans (congrArg Value.bool h18)) ?_)
      exact ⟨(fB (by rw [gG (by unfold cU; omega)])), st16.bare⟩
    ·have h13p := cJ (aW h13)
     refine rc st4 29 Ag.nil.put.put.put [2] [(2, .bool true)] [qb 0 rfl 3, qc Tryz.func43 rfl (fun W s b => cN W p.tasks 1 12), qk h10, qb 0 rfl 4, ql h9_0, qk h11, qb 0 rfl 0, qc Tryz.func43 rfl (fun W s b => cN W p.prio 0 9), qk h12, qb 0 rfl 1, qc Tryz.func43 rfl (fun W s b => cN W p.most 1 5), qk h13] aE fun f19 W20 h19_ st21 hb22 => (aB (wr (aL Tryz.results212 (h19_.at 2) ?_)))
     exact ⟨(fB (by rw [gG (by unfold cU; omega)])), st21.bare⟩
   ·have h12p := cJ (aW h12)
    refine rc st4 29 Ag.nil.put.put.put [2] [(2, .bool true)] [qb 0 rfl 3, qc Tryz.func43 rfl (fun W s b => cN W p.tasks 1 12), qk h10, qb 0 rfl 4, ql h9_0, qk h11, qb 0 rfl 0, qc Tryz.func43 rfl (fun W s b => cN W p.prio 0 9), qk h12] aE fun f23 W24 h23_ st25 hb26 => (aB (wr (aL Tryz.results212 (h23_.at 2) ?_)))
    exact ⟨(fB (by rw [gG (by unfold cU; omega)])), st25.bare⟩
  ·have h11 := decide_eq_true h11p
   refine rc st4 29 Ag.nil.put.put.put [2] [(2, .bool true)] [qb 0 rfl 3, qc Tryz.func43 rfl (fun W s b => cN W p.tasks 1 12), qk h10, qb 0 rfl 4, ql h9_0, qk h11] aE fun f27 W28 h27_ st29 hb30 => (aB (wr (aL Tryz.results212 (h27_.at 2) ?_)))
   exact ⟨(fB (by rw [gG (by unfold cU; omega)])), st29.bare⟩
 ·have h10p := cJ (aW h10)
  refine rc st4 29 Ag.nil.put.put.put [2] [(2, .bool true)] [qb 0 rfl 3, qc Tryz.func43 rfl (fun W s b => cN W p.tasks 1 12), qk h10] aE fun f31 W32 h31_ st33 hb34 => (aB (wr (aL Tryz.results212 (h31_.at 2) ?_)))
  exact ⟨(fB (by rw [gG (by unfold cU; omega)])), st33.bare⟩
theorem mV (w : World) {p : Plan} {cs : List Value} {fp : List Nat} (hc : Shape.C w cs p fp) :
  Calls Tryz.prog 160 #[.agg cs.toArray] w fun e w' => e = .returned (I (cX p)) ∧ St w w' [] := by
 refine cR Tryz.func160 rfl Tryz.ntmps160 aX (wp_seq (aA (sg (aJ (cs := cs) rfl (St.start w) ?_)))); intro b1 W2 hb3 st4
 refine sg (aC (v := I 0) rfl (aB (wp_seq (wp_seq (aA ?_)))))
 have hk9 := hc
 obtain ⟨v9_0, g9_0, rfl, hok9, h9_0, rfl⟩ := hk9
 rcases bd (!(inB p.tasks 1 12)) with h10 | h10
 ·have h10p := inB_iff'.1 (bG h10)
  rcases nem (30 < (p.edges.length : Int)) with h11p | h11p
  ·have h11 := decide_eq_false h11p
   rcases bd (!(inB p.prio 0 9)) with h12 | h12
   ·have h12p := inB_iff'.1 (bG h12)
    rcases bd (!(inB p.most 1 5)) with h13 | h13
    ·have h13p := inB_iff'.1 (bG h13)
     refine rc st4 28 Ag.nil.put.put.put [] [(36, .bool (!(inB p.wait 1 20)))] [qb 0 rfl 3, qc Tryz.func47 rfl (fun W s b => bZ W p.tasks 1 12), qk h10, qb 0 rfl 4, ql h9_0, qk h11, qb 0 rfl 0, qc Tryz.func47 rfl (fun W s b => bZ W p.prio 0 9), qk h12, qb 0 rfl 1, qc Tryz.func47 rfl (fun W s b => bZ W p.most 1 5), qk h13, qb 0 rfl 2, qc Tryz.func47 rfl (fun W s b => bZ W p.wait 1 20), .o] aE fun f14 W15 h14_ st16 hb17 => (aB (cT (h14_.at 36) (fun h18 => ?_) (fun h18 => ?_)))
     ·have h18p := cJ (aW h18)
      refine wp_seq (aA (sg (aC (v := I 1) rfl (aB (wr (aL Tryz.results160 rfl ?_))))))
      exact ⟨(fI (by rw [pf1 (by unfold cU; omega)])), st16.bare⟩
     ·have h18p := inB_iff'.1 (bG h18)
      refine wp_skip (wp_seq (wp_seq (aA ?_)))
      have hM : ¬ cU p := by unfold cU; omega
      have hMb := pM hM
      refine rn st16 4 h14_ [] [(38, v9_0), (39, I (p.edges.length : Int)), (40, I 0)] [qb 0 rfl 4, ql h9_0] aE fun f22 h22_ => (aB (wp_block (aY (fun (m : Nat) (f : Nat → Value) (W : World) => ∃ (k : Nat), k ≤ p.edges.length ∧ EdgesIn p.tasks.toNat (p.edges.take k) ∧ m = p.edges.length - k ∧ Ag [(1, .pointer (some ⟨b1, 0, none⟩)), (38, v9_0), (39, I (p.edges.length : Int)), (40, I (k : Int))] f ∧ St w W ([Res.bx b1 [I p.prio, I p.most, I p.wait, I p.tasks, v9_0] 106])) (p.edges.length - 0) ?_ ?_)))
      ·exact ⟨0, aD, EdgesIn.nil, rfl, (h22_.to aE), st16⟩
      intro m23 f24 W25 hJ26
      obtain ⟨k, hk, hEk, rfl, hA28, st27⟩ := hJ26
      refine wp_seq (aA (sg (bS (hA28.at 40) (hA28.at 39) (aB (wp_seq (aK rfl (fun h31p => ?_) (fun h31p => ?_)))))))
      ·refine wp_skip (wp_seq (wp_block (wp_seq (aA ?_))))
       have hiab516 : k < p.edges.length := aD
       have hq_ := idx h9_0 (i := k) hiab516
       obtain ⟨b32, o32, cs32, f32, hp32, hr32, hc32, hm32⟩ := hq_
       refine sg (aN iG (hA28.at 38) hp32 (hA28.at 40) rfl (sg (dL gA rfl rfl hr32 st27.below (Shape.len hc32) (sg (aR kX st27 ?_))))); intro b35 W36 hb37 st38
       refine sgn (aO (cs := cs32) gA hc32 rfl rfl st38 rfl ?_); intro W40 st41
       refine aB (wp_seq (aA ?_))
       have hk43 := hc32
       obtain ⟨he43, rfl, hok43⟩ := hk43
       have he43 : _ = [I (p.edges[k]'hiab516).from_, I (p.edges[k]'hiab516).to_] := he43
       subst he43
       rcases bd (!(inB (p.edges[k]'hiab516).from_ 0 (p.tasks - 1))) with h44 | h44
       ·have h44p := inB_iff'.1 (bG h44)
        refine rc st41 16 hA28.put.put.put.put [] [(59, .bool (!(inB (p.edges[k]'hiab516).to_ 0 (p.tasks - 1))))] [qb 0 rfl 0, qb 1 rfl 3, qsb p.tasks 1, qc (args := [I (p.edges[k]'hiab516).from_, I 0, I (p.tasks - 1)]) (v := .bool (inB (p.edges[k]'hiab516).from_ 0 (p.tasks - 1))) Tryz.func47 rfl (fun W s b => bZ W (p.edges[k]'hiab516).from_ 0 (p.tasks - 1)), qk h44, qb 0 rfl 1, qb 1 rfl 3, qsb p.tasks 1, qc (args := [I (p.edges[k]'hiab516).to_, I 0, I (p.tasks - 1)]) (v := .bool (inB (p.edges[k]'hiab516).to_ 0 (p.tasks - 1))) Tryz.func47 rfl (fun W s b => bZ W (p.edges[k]'hiab516).to_ 0 (p.tasks - 1)), .o] aE fun f45 W46 h45_ st47 hb48 => (aB (cT (h45_.at 59) (fun h49 => ?_) (fun h49 => ?_)))
        ·have h49p := cJ (aW h49)
         refine wp_seq (aA (sg (aC (v := I 2) rfl (aB (wr (aL Tryz.results160 rfl ?_))))))
         have hnE : ¬ EdgesIn p.tasks.toNat p.edges := fun hE => by have hea := hE.at (k := k) aD; omega
         exact ⟨(fI (by rw [pf2 hM hnE])), st47.bare⟩
        ·have h49p := inB_iff'.1 (bG h49)
         refine wp_skip (aA (sg (bY (h45_.at 40) rfl dX (sg (aF (v := I ((k : Int) + 1)) rfl (aB ?_))))))
         exact ⟨_, p.edges.length - (k + 1), aD, rfl, k + 1, aD, (hEk.step aD aD), rfl, (h45_.put.put.to aE), st47.f1.d1⟩
       ·have h44p := cJ (aW h44)
        refine rc st41 16 hA28.put.put.put.put [] [(59, .bool true)] [qb 0 rfl 0, qb 1 rfl 3, qsb p.tasks 1, qc (args := [I (p.edges[k]'hiab516).from_, I 0, I (p.tasks - 1)]) (v := .bool (inB (p.edges[k]'hiab516).from_ 0 (p.tasks - 1))) Tryz.func47 rfl (fun W s b => bZ W (p.edges[k]'hiab516).from_ 0 (p.tasks - 1)), qk h44] aE fun f56 W57 h56_ st58 hb59 => (aB (fH (h56_.at 59) rfl (wp_seq (aA (sg (aC (v := I 2) rfl (aB (wr (aL Tryz.results160 rfl ?_)))))))))
        have hnE : ¬ EdgesIn p.tasks.toNat p.edges := fun hE => by have hea := hE.at (k := k) aD; omega
        exact ⟨(fI (by rw [pf2 hM hnE])), st58.bare⟩
      ·refine wp_exit (wp_seq (wp_seq (aA ?_)))
       have hE : EdgesIn p.tasks.toNat p.edges := by rw [show k = p.edges.length by omega, List.take_length] at hEk; exact hEk
       refine rn st27 4 hA28.put [] [(62, v9_0), (63, I (p.edges.length : Int)), (64, I 0)] [qb 0 rfl 4, ql h9_0] aE fun f63 h63_ => (aB (wp_block (aY (fun (m : Nat) (f : Nat → Value) (W : World) => ∃ (k2 : Nat), k2 ≤ p.edges.length ∧ (p.edges.take k2).Nodup ∧ m = p.edges.length - k2 ∧ Ag [(1, .pointer (some ⟨b1, 0, none⟩)), (62, v9_0), (63, I (p.edges.length : Int)), (64, I (k2 : Int))] f ∧ St w W ([Res.bx b1 [I p.prio, I p.most, I p.wait, I p.tasks, v9_0] 106])) (p.edges.length - 0) ?_ ?_)))
       ·exact ⟨0, aD, List.nodup_nil, rfl, (h63_.to aE), st27⟩
       intro m64 f65 W66 hJ67
       obtain ⟨k2, hk2, hNk, rfl, hA69, st68⟩ := hJ67
       refine wp_seq (aA (sg (bS (hA69.at 64) (hA69.at 63) (aB (wp_seq (aK rfl (fun h72p => ?_) (fun h72p => ?_)))))))
       ·refine wp_skip (wp_seq (wp_block (wp_seq (aA ?_))))
        have hi9adb2 : k2 < p.edges.length := aD
        have hq_ := idx h9_0 (i := k2) hi9adb2
        obtain ⟨b74, o74, cs74, f74, hp74, hr74, hc74, hm74⟩ := hq_
        refine rn st68 3 hA69.put [] [(66, I (k2 : Int)), (68, .agg cs74.toArray)] [qx hp74, qrw hr74 (Shape.len hc74)] aE fun f75 h75_ => (sg (aR kX st68 ?_)); intro b76 W77 hb78 st79
        refine sg (aC (v := I (k2 : Int)) (h75_.at 66) (sgn (aO (cs := cs74) gA hc74 rfl (h75_.at 68) st79 rfl ?_))); intro W83 st84
        refine aB (wp_seq (oZ [Pl.is (.pointer (some ⟨b1, 0 + 4, none⟩)), Pl.is (v9_0) (Sl.yl h9_0), Pl.is (I (k2 : Int)), Pl.ssl (α := Edge) (p.edges.take k2), Pl.is (.agg cs74.toArray), Pl.bool (decide ((p.edges[k2]'hi9adb2) ∈ (p.edges.take k2)))] mix (by rfl) st84 ⟨(fun f W hst hbl hd hf => aH iT ((hf 1 rfl).trans (h75_.at 1)) brq), (fun f W hst hbl hd hf => aU nM rfl (hd 0 69 rfl rfl) (hst.get 1 rfl) (i := 4) rfl rfl brq), (fun f W hst hbl hd hf => aF (v := I (k2 : Int)) ((hf 5 rfl).trans (show _ = I (k2 : Int) from rfl)) brq), (fun f W hst hbl hd hf => lB (h := k2) iG (hd 1 70 rfl rfl) h9_0 (hd 2 71 rfl rfl) rfl aD (fun v_ g_ h_ hm_ => ⟨Below.refl _ _, g_, h_.below hst.below⟩)), (fun f W hst hbl hd hf => bB gA rfl ((hf 6 rfl).trans (show _ = (.pointer (some ⟨b76, 0, none⟩) : Value) from rfl)) (hst.get 0 rfl) (Shape.len hc74) brq), (fun f W hst hbl hd hf => by obtain ⟨fp85, h85⟩ := hd 3 72 rfl rfl; exact bJ Tryz.func215 rfl rfl (hd 4 73 rfl rfl) ((ContE W h85 hc74).mono (by rintro e W2 ⟨rfl, hk⟩; exact ⟨_, rfl, hk.below, rfl⟩))), trivial⟩ ?_))
        intro f86 W87 st88 hb89 hv90 hf91
        refine aK (hv90 5 74 aX rfl) (fun h93p => ?_) (fun h93p => ?_)
        ·refine wp_seq (aA (sg (aC (v := I 3) rfl (aB (wr (aL Tryz.results160 rfl ?_))))))
         have hnN : ¬ p.edges.Nodup := qK (k := k2) aD (by assumption)
         exact ⟨(fI (by rw [pf3 hM hE hnN])), st88.bare⟩
        ·refine wp_skip (aA (sg (bY ((hf91 64 rfl).trans (h75_.at 64)) rfl dX (sg (aF (v := I ((k2 : Int) + 1)) rfl (aB ?_))))))
         exact ⟨_, p.edges.length - (k2 + 1), aD, rfl, k2 + 1, aD, (tY hNk aD (by assumption)), rfl, (Ag.cons ((hf91 1 rfl).trans (h75_.at 1)) (Ag.cons ((hf91 62 rfl).trans (h75_.at 62)) (Ag.cons ((hf91 63 rfl).trans (h75_.at 63)) (Ag.cons rfl Ag.nil)))), st88.f1.d1⟩
       ·refine wp_exit (wp_seq (wp_seq (aA ?_)))
        have hN : p.edges.Nodup := by rw [show k2 = p.edges.length by omega, List.take_length] at hNk; exact hNk
        refine sg (aV (cs := [I p.prio, I p.most, I p.wait, I p.tasks, v9_0]) jO rfl (hA69.at 1) (st68.get 0 rfl) rfl rfl (sg (bF Tryz.func216 rfl rfl ((WaitsI W66 (bA hc st68.below) aD aD hE).mono ?_)))); rintro _ W104 ⟨v102, fp102, rfl, hk105⟩; refine ⟨_, rfl, ?_⟩
        have st106 := St.call st68 hk105
        have hwl : (eL (dS p.edges (List.replicate p.tasks.toNat 0) p.tasks.toNat)).length = p.tasks.toNat := by rw [wK, jE, List.length_replicate]
        have hbd := vP (n := p.tasks.toNat) aD hE p.tasks.toNat
        refine sg (fK eP rfl (aI (st106.get 0 rfl)) (sg (aF (v := I 0) rfl (aB (wp_block (aY (fun (m : Nat) (f : Nat → Value) (W : World) => ∃ (k3 : Nat), k3 ≤ p.tasks.toNat ∧ (∀ t : Nat, t < k3 → ¬ Rch p.edges (t : Int) (t : Int)) ∧ m = p.tasks.toNat - k3 ∧ Ag [(77, v102), (78, I ((eL (dS p.edges (List.replicate p.tasks.toNat 0) p.tasks.toNat)).length : Int)), (79, I (k3 : Int))] f ∧ St w W ([Res.own (α := List Int) v102 (eL (dS p.edges (List.replicate p.tasks.toNat 0) p.tasks.toNat)) fp102, Res.bx b1 [I p.prio, I p.most, I p.wait, I p.tasks, v9_0] 106])) (p.tasks.toNat - 0) ?_ ?_))))))
        ·exact ⟨0, aD, (fun t ht => absurd ht (Nat.not_lt_zero t)), rfl, (hA69.put.put.put.put.put.to aE), st106⟩
        intro m110 f111 W112 hJ113
        obtain ⟨k3, hk3, hW, rfl, hA115, st114⟩ := hJ113
        refine wp_seq (aA (sg (bS (hA115.at 79) (hA115.at 78) (aB (wp_seq (aK rfl (fun h118p => ?_) (fun h118p => ?_)))))))
        ·refine wp_skip (wp_seq (wp_block (wp_seq (aA ?_))))
         have hie76f8 : k3 < (eL (dS p.edges (List.replicate p.tasks.toNat 0) p.tasks.toNat)).length := aD
         have hq_ := idx (aI (st114.get 0 rfl)) (i := k3) hie76f8
         obtain ⟨b120, o120, cs120, f120, hp120, hr120, hc120, hm120⟩ := hq_
         have hk120 := hc120
         obtain ⟨rfl, rfl, hok120⟩ := hk120
         refine rn st114 5 hA115.put [] [(7, I (k3 : Int)), (8, I ((eL (dS p.edges (List.replicate p.tasks.toNat 0) p.tasks.toNat))[k3]'hie76f8))] [qx hp120, qn hr120 0] aE fun f121 h121_ => (aB (wp_seq (aA (sg (aF (v := I ((eL (dS p.edges (List.replicate p.tasks.toNat 0) p.tasks.toNat))[k3]'hie76f8)) (h121_.at 8) (sg (aF (v := I (k3 : Int)) (h121_.at 7) (sg (stp_shrI rfl rfl (jK hbd _ _).1 aD (sg (stp_andI rfl rfl (shrI_rng (jK hbd _ _)) aD (sg (dI rfl rfl (aB (aK rfl (fun h126p => ?_) (fun h126p => ?_))))))))))))))))
         ·refine wp_seq (aA (sg (aC (v := I 4) rfl (aB (wr (aL Tryz.results160 rfl ?_))))))
          have hC : kE p := ⟨k3, aD, (vD hE aD _).1 (by assumption)⟩
          exact ⟨(fI (by rw [pf4 hM hE hN hC])), st114.bare⟩
         ·refine wp_skip (aA (sg (bY (h121_.at 79) rfl dX (sg (aF (v := I ((k3 : Int) + 1)) rfl (aB ?_))))))
          exact ⟨_, p.tasks.toNat - (k3 + 1), aD, rfl, k3 + 1, aD, (fun t ht => by rcases Nat.lt_succ_iff_lt_or_eq.1 ht with h1 | rfl; exact hW t h1; exact fun hr => absurd ((vD hE aD _).2 hr) h126p), rfl, (h121_.put.put.put.put.put.put.put.to aE), st114⟩
        ·refine wp_exit (wp_seq (aA (sg (aC (v := I 0) rfl (aB (wr (aL Tryz.results160 rfl ?_)))))))
         have hC : ¬ kE p := by rintro ⟨t, ht, hr⟩; exact hW t aD hr
         exact ⟨(fI (by rw [pf0 hM hE hN hC])), st114.bare⟩
    ·have h13p := cJ (aW h13)
     refine rc st4 28 Ag.nil.put.put.put [] [(36, .bool true)] [qb 0 rfl 3, qc Tryz.func47 rfl (fun W s b => bZ W p.tasks 1 12), qk h10, qb 0 rfl 4, ql h9_0, qk h11, qb 0 rfl 0, qc Tryz.func47 rfl (fun W s b => bZ W p.prio 0 9), qk h12, qb 0 rfl 1, qc Tryz.func47 rfl (fun W s b => bZ W p.most 1 5), qk h13] aE fun f133 W134 h133_ st135 hb136 => (aB (fH (h133_.at 36) rfl (wp_seq (aA (sg (aC (v := I 1) rfl (aB (wr (aL Tryz.results160 rfl ?_)))))))))
     exact ⟨(fI (by rw [pf1 (by unfold cU; omega)])), st135.bare⟩
   ·have h12p := cJ (aW h12)
    refine rc st4 28 Ag.nil.put.put.put [] [(36, .bool true)] [qb 0 rfl 3, qc Tryz.func47 rfl (fun W s b => bZ W p.tasks 1 12), qk h10, qb 0 rfl 4, ql h9_0, qk h11, qb 0 rfl 0, qc Tryz.func47 rfl (fun W s b => bZ W p.prio 0 9), qk h12] aE fun f139 W140 h139_ st141 hb142 => (aB (fH (h139_.at 36) rfl (wp_seq (aA (sg (aC (v := I 1) rfl (aB (wr (aL Tryz.results160 rfl ?_)))))))))
    exact ⟨(fI (by rw [pf1 (by unfold cU; omega)])), st141.bare⟩
  ·have h11 := decide_eq_true h11p
   refine rc st4 28 Ag.nil.put.put.put [] [(36, .bool true)] [qb 0 rfl 3, qc Tryz.func47 rfl (fun W s b => bZ W p.tasks 1 12), qk h10, qb 0 rfl 4, ql h9_0, qk h11] aE fun f145 W146 h145_ st147 hb148 => (aB (fH (h145_.at 36) rfl (wp_seq (aA (sg (aC (v := I 1) rfl (aB (wr (aL Tryz.results160 rfl ?_)))))))))
   exact ⟨(fI (by rw [pf1 (by unfold cU; omega)])), st147.bare⟩
 ·have h10p := cJ (aW h10)
  refine rc st4 28 Ag.nil.put.put.put [] [(36, .bool true)] [qb 0 rfl 3, qc Tryz.func47 rfl (fun W s b => bZ W p.tasks 1 12), qk h10] aE fun f151 W152 h151_ st153 hb154 => (aB (fH (h151_.at 36) rfl (wp_seq (aA (sg (aC (v := I 1) rfl (aB (wr (aL Tryz.results160 rfl ?_)))))))))
  exact ⟨(fI (by rw [pf1 (by unfold cU; omega)])), st153.bare⟩
theorem uY (w : World) {p : Plan} {cs : List Value} {fp : List Nat} (hc : Shape.C w cs p fp) :
  Calls Tryz.prog 155 #[.agg cs.toArray] w fun e w' => e = .returned (I (cX p)) ∧ St w w' [] := by
 refine cR Tryz.func155 rfl Tryz.ntmps155 aX (wp_seq (aA (sg (aJ (cs := cs) rfl (St.start w) ?_)))); intro b1 W2 hb3 st4
 refine sg (aC (v := I 0) rfl (aB (wp_seq (wp_seq (aA (rc st4 2 Ag.nil.put.put.put [] [(8, .bool (pB (cU p)))] [qw 0 rfl (Shape.len hc), qc Tryz.func212 rfl (fun W s b => ManyS W (bA hc s.below))] aE fun f9 W10 h9_ st11 hb12 => (aB (cT (h9_.at 8) (fun h13 => ?_) (fun h13 => ?_)))))))))
 ·refine wp_seq (aA (sg (aC (v := I 1) rfl (aB (wr (aL Tryz.results155 rfl ?_))))))
  exact ⟨(fI (by rw [pf1 (pB_iff.1 (by assumption))])), st11.bare⟩
 ·refine wp_skip (wp_seq (wp_seq (aA ?_)))
  have hM : ¬ cU p := fun hm => by rw [gG hm] at h13; cases h13
  have hMb := pM hM
  refine sg (aC (v := I 0) rfl (aB (wp_block (aY (fun (m : Nat) (f : Nat → Value) (W : World) => ∃ (k : Nat), k ≤ p.edges.length ∧ EdgesIn p.tasks.toNat (p.edges.take k) ∧ m = p.edges.length - k ∧ Ag [(1, .pointer (some ⟨b1, 0, none⟩)), (3, I (k : Int))] f ∧ St w W ([Res.bx b1 cs 106])) (p.edges.length - 0) ?_ ?_))))
  ·exact ⟨0, aD, EdgesIn.nil, rfl, (h9_.put.to aE), st11⟩
  intro m18 f19 W20 hJ21
  obtain ⟨k, hk, hEk, rfl, hA23, st22⟩ := hJ21
  refine wp_seq (wp_seq (aA ?_))
  have hk25 := hc
  obtain ⟨v25_0, g25_0, rfl, hok25, h25_0, rfl⟩ := hk25
  refine rn st22 5 hA23 [] [(13, .bool (decide ((k : Int) < (p.edges.length : Int))))] [qb 0 rfl 4, ql h25_0, .o] aE fun f26 h26_ => (aB (aK (h26_.at 13) (fun h27p => ?_) (fun h27p => ?_)))
  ·refine wp_skip (wp_seq (wp_block (wp_seq ?_)))
   have hiab516 : k < p.edges.length := aD
   rcases bd (!(inB (p.edges[k]'hiab516).from_ 0 (p.tasks - 1))) with h31 | h31
   ·have h31p := inB_iff'.1 (bG h31)
    have hiab516 : k < p.edges.length := aD
    have hq_ := idx h25_0 (i := k) hiab516
    obtain ⟨b33, o33, cs33, f33, hp33, hr33, hc33, hm33⟩ := hq_
    have hk34 := hc33
    obtain ⟨he34, rfl, hok34⟩ := hk34
    have he34 : _ = [I (p.edges[k]'hiab516).from_, I (p.edges[k]'hiab516).to_] := he34
    subst he34
    refine rd st22 h26_ [] [(39, .bool (!(inB (p.edges[k]'hiab516).to_ 0 (p.tasks - 1))))] [qb 0 rfl 4, qx hp33, qr hr33 0, qb 0 rfl 3, qsb p.tasks 1, qc (args := [I (p.edges[k]'hiab516).from_, I 0, I (p.tasks - 1)]) (v := .bool (inB (p.edges[k]'hiab516).from_ 0 (p.tasks - 1))) Tryz.func43 rfl (fun W s b => cN W (p.edges[k]'hiab516).from_ 0 (p.tasks - 1)), qk h31, qb 0 rfl 4, qx hp33, qr hr33 1, qb 0 rfl 3, qsb p.tasks 1, qc (args := [I (p.edges[k]'hiab516).to_, I 0, I (p.tasks - 1)]) (v := .bool (inB (p.edges[k]'hiab516).to_ 0 (p.tasks - 1))) Tryz.func43 rfl (fun W s b => cN W (p.edges[k]'hiab516).to_ 0 (p.tasks - 1)), .o] aE aE fun f35 W36 h35_ st37 hb38 => (cT (h35_.at 39) (fun h39 => ?_) (fun h39 => ?_))
    ·have h39p := cJ (aW h39)
     refine wp_seq (aA (sg (aC (v := I 2) rfl (aB (wr (aL Tryz.results155 rfl ?_))))))
     have hnE : ¬ EdgesIn p.tasks.toNat p.edges := fun hE => by have hea := hE.at (k := k) aD; omega
     exact ⟨(fI (by rw [pf2 hM hnE])), st37.bare⟩
    ·have h39p := inB_iff'.1 (bG h39)
     refine wp_skip (aA (sg (aF (v := I (k : Int)) (h35_.at 3) (sg (bY rfl rfl dX (sg (aC (v := I ((k : Int) + 1)) rfl (aB ?_))))))))
     exact ⟨_, p.edges.length - (k + 1), aD, rfl, k + 1, aD, (hEk.step aD aD), rfl, (h35_.put.put.put.to aE), st37⟩
   ·have h31p := cJ (aW h31)
    have hiab516 : k < p.edges.length := aD
    have hq_ := idx h25_0 (i := k) hiab516
    obtain ⟨b47, o47, cs47, f47, hp47, hr47, hc47, hm47⟩ := hq_
    have hk48 := hc47
    obtain ⟨he48, rfl, hok48⟩ := hk48
    have he48 : _ = [I (p.edges[k]'hiab516).from_, I (p.edges[k]'hiab516).to_] := he48
    subst he48
    refine rd st22 h26_ [] [(39, .bool true)] [qb 0 rfl 4, qx hp47, qr hr47 0, qb 0 rfl 3, qsb p.tasks 1, qc (args := [I (p.edges[k]'hiab516).from_, I 0, I (p.tasks - 1)]) (v := .bool (inB (p.edges[k]'hiab516).from_ 0 (p.tasks - 1))) Tryz.func43 rfl (fun W s b => cN W (p.edges[k]'hiab516).from_ 0 (p.tasks - 1)), qk h31] aE aE fun f49 W50 h49_ st51 hb52 => (fH (h49_.at 39) rfl (wp_seq (aA (sg (aC (v := I 2) rfl (aB (wr (aL Tryz.results155 rfl ?_))))))))
    have hnE : ¬ EdgesIn p.tasks.toNat p.edges := fun hE => by have hea := hE.at (k := k) aD; omega
    exact ⟨(fI (by rw [pf2 hM hnE])), st51.bare⟩
  ·refine wp_exit (wp_seq (wp_seq (aA ?_)))
   have hE : EdgesIn p.tasks.toNat p.edges := by rw [show k = p.edges.length by omega, List.take_length] at hEk; exact hEk
   refine sg (aC (v := I 0) rfl (aB (wp_block (aY (fun (m : Nat) (f : Nat → Value) (W : World) => ∃ (k2 : Nat), k2 ≤ p.edges.length ∧ (p.edges.take k2).Nodup ∧ m = p.edges.length - k2 ∧ Ag [(1, .pointer (some ⟨b1, 0, none⟩)), (4, I (k2 : Int))] f ∧ St w W ([Res.bx b1 [I p.prio, I p.most, I p.wait, I p.tasks, v25_0] 106])) (p.edges.length - 0) ?_ ?_))))
   ·exact ⟨0, aD, List.nodup_nil, rfl, (h26_.put.to aE), st22⟩
   intro m57 f58 W59 hJ60
   obtain ⟨k2, hk2, hNk, rfl, hA62, st61⟩ := hJ60
   refine wp_seq (wp_seq (aA (rn st61 5 hA62 [] [(44, .bool (decide ((k2 : Int) < (p.edges.length : Int))))] [qb 0 rfl 4, ql h25_0, .o] aE fun f64 h64_ => (aB (aK (h64_.at 44) (fun h65p => ?_) (fun h65p => ?_))))))
   ·refine wp_skip (wp_seq (wp_block (wp_seq (aA (sg (aC (v := I 0) rfl (aB (wp_block (aY (fun (m : Nat) (f : Nat → Value) (W : World) => ∃ (j : Nat), j ≤ k2 ∧ (p.edges[k2]'(by omega)) ∉ p.edges.take j ∧ m = k2 - j ∧ Ag [(1, .pointer (some ⟨b1, 0, none⟩)), (4, I (k2 : Int)), (5, I (j : Int))] f ∧ St w W ([Res.bx b1 [I p.prio, I p.most, I p.wait, I p.tasks, v25_0] 106])) (k2 - 0) ?_ ?_)))))))))
    ·exact ⟨0, aD, (by simp), rfl, (h64_.put.to aE), st61⟩
    intro m68 f69 W70 hJ71
    obtain ⟨j, hj, hj2, rfl, hA73, st72⟩ := hJ71
    refine wp_seq (wp_seq (aA (rn st72 3 hA73 [] [(49, .bool (decide ((j : Int) < (k2 : Int))))] [.o] aE fun f75 h75_ => (aB (aK (h75_.at 49) (fun h76p => ?_) (fun h76p => ?_))))))
    ·refine wp_skip (wp_seq (wp_block (wp_seq ?_)))
     have hi9adb2 : k2 < p.edges.length := aD
     have hq_ := idx h25_0 (i := k2) hi9adb2
     obtain ⟨b77, o77, cs77, f77, hp77, hr77, hc77, hm77⟩ := hq_
     have hk78 := hc77
     obtain ⟨he78, rfl, hok78⟩ := hk78
     have he78 : _ = [I (p.edges[k2]'hi9adb2).from_, I (p.edges[k2]'hi9adb2).to_] := he78
     subst he78
     have hif5231 : j < p.edges.length := aD
     have hq_ := idx h25_0 (i := j) hif5231
     obtain ⟨b79, o79, cs79, f79, hp79, hr79, hc79, hm79⟩ := hq_
     have hk80 := hc79
     obtain ⟨he80, rfl, hok80⟩ := hk80
     have he80 : _ = [I (p.edges[j]'hif5231).from_, I (p.edges[j]'hif5231).to_] := he80
     subst he80
     refine oZ [Pl.is (.pointer (some ⟨b1, 0 + 4, none⟩)), Pl.is (v25_0) (Sl.yl h25_0), Pl.is (I (k2 : Int)), Pl.is (.pointer (some ⟨b77, o77, none⟩)), Pl.is (.agg #[I (p.edges[k2]'hi9adb2).from_, I (p.edges[k2]'hi9adb2).to_]), Pl.is (.pointer (some ⟨b1, 0 + 4, none⟩)), Pl.is (v25_0) (Sl.yl h25_0), Pl.is (I (j : Int)), Pl.is (.pointer (some ⟨b79, o79, none⟩)), Pl.is (.agg #[I (p.edges[j]'hif5231).from_, I (p.edges[j]'hif5231).to_]), Pl.bool (eqB (p.edges[k2]'hi9adb2) (p.edges[j]'hif5231))] mix (by rfl) st72 ⟨(fun f W hst hbl hd hf => aH iT ((hf 1 rfl).trans (h75_.at 1)) brq), (fun f W hst hbl hd hf => aU nM rfl (hd 0 52 rfl rfl) (hst.get 0 rfl) (i := 4) rfl rfl brq), (fun f W hst hbl hd hf => aF (v := I (k2 : Int)) ((hf 4 rfl).trans (h75_.at 4)) brq), (fun f W hst hbl hd hf => aN iG (hd 1 53 rfl rfl) hp77 (hd 2 54 rfl rfl) rfl brq), (fun f W hst hbl hd hf => fX (cs := [I (p.edges[k2]'hi9adb2).from_, I (p.edges[k2]'hi9adb2).to_]) gA rfl (hd 3 55 rfl rfl) hr77 hst.below (i := 0) rfl rfl rfl brq), (fun f W hst hbl hd hf => aH iT ((hf 1 rfl).trans (h75_.at 1)) brq), (fun f W hst hbl hd hf => aU nM rfl (hd 5 57 rfl rfl) (hst.get 0 rfl) (i := 4) rfl rfl brq), (fun f W hst hbl hd hf => aF (v := I (j : Int)) ((hf 5 rfl).trans (h75_.at 5)) brq), (fun f W hst hbl hd hf => aN iG (hd 6 58 rfl rfl) hp79 (hd 7 59 rfl rfl) rfl brq), (fun f W hst hbl hd hf => fX (cs := [I (p.edges[j]'hif5231).from_, I (p.edges[j]'hif5231).to_]) gA rfl (hd 8 60 rfl rfl) hr79 hst.below (i := 0) rfl rfl rfl brq), (fun f W hst hbl hd hf => xQ (zO (p.edges[k2]'hi9adb2) (p.edges[j]'hif5231)) aA0 (hd 4 56 rfl rfl) (hd 9 61 rfl rfl) brq), trivial⟩ ?_
     intro f81 W82 st83 hb84 hv85 hf86
     refine cT (hv85 10 62 aX rfl) (fun h88 => ?_) (fun h88 => ?_)
     ·refine wp_seq (aA (sg (aC (v := I 3) rfl (aB (wr (aL Tryz.results155 rfl ?_))))))
      have hnN : ¬ p.edges.Nodup := qK (k := k2) aD (by rw [eqB_iff.1 h88]; exact sN aD aD)
      exact ⟨(fI (by rw [pf3 hM hE hnN])), st83.bare⟩
     ·refine wp_skip (aA (rn st83 3 (Ag.cons (show f81 1 = .pointer (some ⟨b1, 0, none⟩) from ((hf86 1 rfl).trans (h75_.at 1))) (Ag.cons (show f81 4 = I (k2 : Int) from ((hf86 4 rfl).trans (h75_.at 4))) (Ag.cons (show f81 5 = I (j : Int) from ((hf86 5 rfl).trans (h75_.at 5))) Ag.nil))) [5] [(5, I ((j : Int) + 1))] [qad (j : Int) 1] aE fun f92 h92_ => (aB ?_)))
      exact ⟨_, k2 - (j + 1), aD, rfl, j + 1, aD, (not_mem_take_step aD hj2 (fun e => by rw [dB e] at h88; cases h88)), rfl, (h92_.to aE), st83⟩
    ·refine wp_exit (aA (sg (aF (v := I (k2 : Int)) (h75_.at 4) (sg (bY rfl rfl dX (sg (aC (v := I ((k2 : Int) + 1)) rfl (aB ?_))))))))
     exact ⟨_, p.edges.length - (k2 + 1), aD, rfl, k2 + 1, aD, (tY hNk aD (by rw [show j = k2 by omega] at hj2; exact hj2)), rfl, (h75_.put.put.put.to aE), st72⟩
   ·refine wp_exit (wp_seq (wp_seq (aA ?_)))
    have hN : p.edges.Nodup := by rw [show k2 = p.edges.length by omega, List.take_length] at hNk; exact hNk
    refine sg (aC (v := I 0) rfl (aB (wp_block (aY (fun (m : Nat) (f : Nat → Value) (W : World) => ∃ (k3 : Nat), k3 ≤ p.tasks.toNat ∧ (∀ t : Nat, t < k3 → ¬ Rch p.edges (t : Int) (t : Int)) ∧ m = p.tasks.toNat - k3 ∧ Ag [(1, .pointer (some ⟨b1, 0, none⟩)), (6, I (k3 : Int))] f ∧ St w W ([Res.bx b1 [I p.prio, I p.most, I p.wait, I p.tasks, v25_0] 106])) (p.tasks.toNat - 0) ?_ ?_))))
    ·exact ⟨0, aD, (fun t ht => absurd ht (Nat.not_lt_zero t)), rfl, (h64_.put.to aE), st61⟩
    intro m99 f100 W101 hJ102
    obtain ⟨k3, hk3, hW, rfl, hA104, st103⟩ := hJ102
    refine wp_seq (wp_seq (aA (rn st103 4 hA104 [] [(66, .bool (decide ((k3 : Int) < p.tasks)))] [qb 0 rfl 3, .o] aE fun f106 h106_ => (aB (aK (h106_.at 66) (fun h107p => ?_) (fun h107p => ?_))))))
    ·refine wp_skip (wp_seq (wp_block (wp_seq (aA (sg (aV (cs := [I p.prio, I p.most, I p.wait, I p.tasks, v25_0]) jO rfl (h106_.at 1) (st103.get 0 rfl) rfl rfl (sg (aF (v := I (k3 : Int)) (h106_.at 6) (sg (bJ Tryz.func213 rfl rfl rfl ((FromS W101 (bA hc st103.below) (k3 : Int) aD aD hE aD).mono ?_))))))))))); rintro _ W112 ⟨v110, fp110, rfl, hk113⟩; refine ⟨_, rfl, ?_⟩
     have st114 := St.call st103 hk113
     refine sg (aF (v := I (k3 : Int)) (h106_.at 6) ?_)
     have hfl := fromOf_len p.edges p.tasks.toNat (k3 : Int)
     have hi60dda : k3 < (mP p.edges p.tasks.toNat (k3 : Int)).length := aD
     have hq_ := idx (aI (st114.get 0 rfl)) (i := k3) hi60dda
     obtain ⟨b118, o118, cs118, f118, hp118, hr118, hc118, hm118⟩ := hq_
     have hk118 := hc118
     obtain ⟨rfl, rfl, hok118⟩ := hk118
     refine sg (aN sl_boolS rfl hp118 rfl rfl (sg (eV ld_bool rfl rfl hr118 (Below.refl _ _) (i := 0) rfl rfl (aB (cT rfl (fun h121 => ?_) (fun h121 => ?_))))))
     ·refine wp_seq (aA (sg (aC (v := I 4) rfl (aB (wr (aL Tryz.results155 rfl ?_))))))
      have hC : kE p := ⟨k3, aD, pB_iff.1 ((wB _).symm.trans h121)⟩
      exact ⟨(fI (by rw [pf4 hM hE hN hC])), st114.bare⟩
     ·refine wp_skip (aA (sg (aF (v := I (k3 : Int)) (h106_.at 6) (sg (bY rfl rfl dX (sg (aC (v := I ((k3 : Int) + 1)) rfl (aB ?_))))))))
      exact ⟨_, p.tasks.toNat - (k3 + 1), aD, rfl, k3 + 1, aD, (fun t ht => by rcases Nat.lt_succ_iff_lt_or_eq.1 ht with h1 | rfl; exact hW t h1; exact fun hr => absurd ((wB _).symm.trans h121) (by rw [gG hr]; decide)), rfl, (h106_.put.put.put.put.put.put.put.put.put.to aE), st114.f1.d1⟩
    ·refine wp_exit (wp_seq (aA (sg (aC (v := I 0) rfl (aB (wr (aL Tryz.results155 rfl ?_)))))))
     have hC : ¬ kE p := by rintro ⟨t, ht, hr⟩; exact hW t aD hr
     exact ⟨(fI (by rw [pf0 hM hE hN hC])), st103.bare⟩
end Go.Proofs.YtchnllpegfbleaaGreat
namespace Go.Proofs.YtchnllpegfbleaaGreat
set_option linter.unusedSimpArgs false
set_option linter.unusedVariables false
set_option maxRecDepth 100000
set_option maxHeartbeats 2000000
open Go.RowKit Go.Sort
theorem Elems.ints_inv {W : World} : ∀ {xs : List Int} {cells : List Value} {fp : List Nat}, Elems W cells xs fp → cells = xs.map I ∧ fp = [] ∧ ∀ x ∈ xs, I64 x
 | [], _, _, ⟨h1, h2⟩ => ⟨h1, h2, by simp⟩
 | x :: xs, _, _, ⟨cs, rest, f1, f2, h1, h2, h3, h4⟩ => by
  obtain ⟨rfl, rfl, hx⟩ := h2
  obtain ⟨rfl, rfl, hxs⟩ := Elems.ints_inv h3
  subst h1 h4
  exact ⟨rfl, rfl, fun y hy => by rcases List.mem_cons.1 hy with rfl | hy; exact hx; exact hxs y hy⟩
theorem St.sorted {w0 W : World} {rs : List Res} {b off cap : Nat} {xs ys : List Int} {fp : List Nat} (h : St w0 W (Res.own (.slice (some ⟨b, off, none⟩) xs.length cap) xs fp :: rs)) (hne : xs ≠ []) (hl : ys.length = xs.length) (hm : ∀ y ∈ ys, y ∈ xs) (n : Nat) (os : Array Obj) :
  ∃ fp', St w0 (grow (putRow (Value.int .i64) (Sort.ahead W n) b off ys.toArray) os) (Res.own (.slice (some ⟨b, off, none⟩) xs.length cap) ys fp' :: rs) := by
 have hown := h.get 0 rfl
 have hwr := hown.2
 obtain ⟨ao, cap', e, h1, h2, h3⟩ := aI hown
 injection e with e1 e2 e3
 subst e1 e3
 rcases h3 with ⟨h0, _⟩ | ⟨b', off', f, _, e4, rfl, hb, h3⟩
 ·exact absurd h0 hne
 injection e4 with e4
 injection e4 with e5 e6
 subst e5 e6
 obtain ⟨cells, he, hr⟩ := Elems.of_at off h3
 obtain ⟨rfl, rfl, h64⟩ := he.ints_inv
 obtain ⟨C, e, hC⟩ := hwr b (by simp)
 have hdr : Holds (Value.int .i64) W b off xs.toArray := by
  intro j hj
  have hj' : j < xs.length := by simpa using hj
  refine ⟨?_, by simp [World.frozen?, hC]⟩
  rw [hr j (I xs[j]) (by simp [hj'])]
  simp [hj']
 have hC' : (grow (putRow (Value.int .i64) (Sort.ahead W n) b off ys.toArray) os).heap[b]? = some (.cells (putCells (Value.int .i64) off ys.toArray C) e (0, 0)) := by
  rw [heap_grow_old _ _ (by simpa using hb)]
  simp [putRow, mapBlock, Sort.ahead, Array.getElem?_modify, hC, onCells]
 refine ⟨[b], h.turn (r' := Res.own _ ys [b]) rfl rfl rfl (by simp [grow]) ?_ ?_ (by simp [Res.own]) (fun c hc => .inl hc)⟩
 ·intro k hk hkn
  have hkb : b ≠ k := fun e => hkn (by simp [Res.own, e])
  rw [heap_grow_old _ _ (by simpa using hk)]
  simp [putRow, mapBlock, Sort.ahead, Array.getElem?_modify, hkb]
 ·refine ⟨Sl.v ⟨some ⟨b, off, none⟩, cap, by rw [hl], by rw [hl]; exact h1, h2, .inr ⟨b, off, [], ?_, rfl, rfl, ?_, ?_⟩⟩, ?_⟩
  ·intro e0; rw [e0] at hl; exact hne (List.eq_nil_of_length_eq_zero hl.symm)
  ·exact (Array.getElem?_eq_some_iff.1 hC').1
  ·refine (Elems.ints ys (fun y hy => h64 y (hm y hy))).at off ?_
   intro j u hj
   have hjl : j < ys.length := by have := (List.getElem?_eq_some_iff.1 hj).1; simpa using this
   have hu : u = I ys[j] := by simpa [hjl] using hj.symm
   have hc := cell?_putRow (Value.int .i64) (Sort.ahead W n) b off xs.toArray ys.toArray (holds_ahead _ _ _ _ _ _ hdr) (by simp [hl]) j (by simpa using hjl)
   rw [cell?_grow _ _ _ (by simpa using hb)]
   rw [hc, hu]
   simp [hjl]
  ·intro c hc
   simp at hc; subst hc
   exact ⟨_, _, hC'⟩
end Go.Proofs.YtchnllpegfbleaaGreat
namespace Go.Proofs.YtchnllpegfbleaaGreat
set_option linter.unusedSimpArgs false
set_option linter.unusedVariables false
set_option maxRecDepth 100000
set_option maxHeartbeats 2000000
open Go.RowKit
open Go.Sort
def lays189_ren : Go.Shelf.Ren := ⟨fun | 189 => 226 | 125 => 240 | 257 => 239 | 128 => 253 | 129 => 254 | 294 => 244 | 295 => 245 | 296 => 246 | 297 => 247 | 298 => 248 | 299 => 249 | 216 => 250 | 300 => 251 | 301 => 252 | 328 => 256 | 329 => 257 | 330 => 258 | 331 => 259 | 332 => 260 | 215 => 261 | 343 => 263 | n => n, fun | 28 => 49 | 3 => 3 | 46 => 232 | 0 => 0 | 51 => 245 | 53 => 247 | 4 => 4 | 183 => 237 | 182 => 236 | 131 => 242 | 5 => 5 | 9 => 9 | 218 => 248 | 222 => 252 | 228 => 255 | 229 => 256 | n => n, fun | n => n⟩
theorem zV : Go.Proofs.Lays.n189 Tryz.prog lays189_ren where
 mixed := by kernel_rfl
 f125 := Tryz.func240.trans (congrArg some aE)
 f128 := Tryz.func253.trans (congrArg some aE)
 f129 := Tryz.func254.trans (congrArg some aE)
 f189 := Tryz.func226.trans (congrArg some aE)
 f215 := Tryz.func261.trans (congrArg some aE)
 f216 := Tryz.func250.trans (congrArg some aE)
 f257 := Tryz.func239.trans (congrArg some aE)
 f294 := Tryz.func244.trans (congrArg some aE)
 f295 := Tryz.func245.trans (congrArg some aE)
 f296 := Tryz.func246.trans (congrArg some aE)
 f297 := Tryz.func247.trans (congrArg some aE)
 f298 := Tryz.func248.trans (congrArg some aE)
 f299 := Tryz.func249.trans (congrArg some aE)
 f300 := Tryz.func251.trans (congrArg some aE)
 f301 := Tryz.func252.trans (congrArg some aE)
 f328 := Tryz.func256.trans (congrArg some aE)
 f329 := Tryz.func257.trans (congrArg some aE)
 f330 := Tryz.func258.trans (congrArg some aE)
 f331 := Tryz.func259.trans (congrArg some aE)
 f332 := Tryz.func260.trans (congrArg some aE)
 f343 := Tryz.func263.trans (congrArg some aE)
 t0 := Tryz.underlying0
 a0 := Tryz.isAgg0
 z0 := Tryz.sizeOf0
 v0 := Tryz.zeroValue0
 t3 := Tryz.underlying3
 a3 := Tryz.isAgg3
 z3 := Tryz.sizeOf3
 v3 := Tryz.zeroValue3
 t4 := Tryz.underlying4
 a4 := Tryz.isAgg4
 z4 := Tryz.sizeOf4
 v4 := Tryz.zeroValue4
 t5 := Tryz.underlying5
 a5 := Tryz.isAgg5
 z5 := Tryz.sizeOf5
 v5 := Tryz.zeroValue5
 t9 := Tryz.underlying9
 a9 := Tryz.isAgg9
 z9 := Tryz.sizeOf9
 v9 := Tryz.zeroValue9
 t28 := Tryz.underlying49
 a28 := Tryz.isAgg49
 z28 := Tryz.sizeOf49
 v28 := Tryz.zeroValue49
 t46 := Tryz.underlying232
 a46 := Tryz.isAgg232
 z46 := Tryz.sizeOf232
 v46 := Tryz.zeroValue232
 t51 := Tryz.underlying245
 a51 := Tryz.isAgg245
 z51 := Tryz.sizeOf245
 v51 := Tryz.zeroValue245
 t53 := Tryz.underlying247
 a53 := Tryz.isAgg247
 z53 := Tryz.sizeOf247
 v53 := Tryz.zeroValue247
 t131 := Tryz.underlying242
 a131 := Tryz.isAgg242
 z131 := Tryz.sizeOf242
 v131 := Tryz.zeroValue242
 t182 := Tryz.underlying236
 a182 := Tryz.isAgg236
 z182 := Tryz.sizeOf236
 v182 := Tryz.zeroValue236
 t183 := Tryz.underlying237
 a183 := Tryz.isAgg237
 z183 := Tryz.sizeOf237
 v183 := Tryz.zeroValue237
 t218 := Tryz.underlying248
 a218 := Tryz.isAgg248
 z218 := Tryz.sizeOf248
 v218 := Tryz.zeroValue248
 t222 := Tryz.underlying252
 a222 := Tryz.isAgg252
 z222 := Tryz.sizeOf252
 v222 := Tryz.zeroValue252
 t228 := Tryz.underlying255
 a228 := Tryz.isAgg255
 z228 := Tryz.sizeOf255
 v228 := Tryz.zeroValue255
 t229 := Tryz.underlying256
 a229 := Tryz.isAgg256
 z229 := Tryz.sizeOf256
 v229 := Tryz.zeroValue256


theorem aA6 {w0 W : World} {rs : List Res} {v : Value} {xs : List Int} {fp : List Nat} (h : St w0 W (Res.own v xs fp :: rs)) (hn : xs.length ≤ 1000000) :
  Calls Tryz.prog 226 #[v] W fun e w' => e = .returned (.tuple #[]) ∧ ∃ fp', St w0 w' (Res.own v (cO xs) fp' :: rs) := by
 have hsl := aI (h.get 0 rfl)
 have hwr := (h.get 0 rfl).2
 obtain ⟨ao, cap, rfl, h1, h2, h3⟩ := hsl
 rcases h3 with ⟨rfl, rfl⟩ | ⟨b, off, f, hne, rfl, rfl, hb, h3⟩
 ·refine (Any.slices_Sort_int_none zV ao cap W).mono ?_
  rintro e w' ⟨he, rfl⟩
  refine ⟨he, [], ?_⟩
  rw [show cO [] = [] from List.eq_nil_of_length_eq_zero (nX [])]
  exact h
 ·obtain ⟨cells, he, hr⟩ := Elems.of_at off h3
  obtain ⟨rfl, rfl, h64⟩ := he.ints_inv
  obtain ⟨C, e, hC⟩ := hwr b (by simp)
  have hdr : Holds (Value.int .i64) W b off xs.toArray := by
   intro j hj
   have hj' : j < xs.length := by simpa using hj
   refine ⟨?_, by simp [World.frozen?, hC]⟩
   rw [hr j (I xs[j]) (by simp [hj'])]
   simp [hj']
  refine (Any.slices_Sort_int zV b off cap xs W hdr hb aD).mono ?_
  rintro e' w' ⟨he', n, os, rfl⟩
  obtain ⟨fp', hst⟩ := h.sorted hne (nX xs) (fun y hy => (kO xs).mem_iff.1 hy) n os
  exact ⟨he', fp', hst⟩

end Go.Proofs.YtchnllpegfbleaaGreat
namespace Go.Proofs.YtchnllpegfbleaaGreat
set_option linter.unusedSimpArgs false
set_option linter.unusedVariables false
set_option maxRecDepth 100000
set_option maxHeartbeats 2000000
open Go.RowKit
section
variable {P : Program} {W : World}
end
theorem St.own_nil {α : Type} [Shape α] {w0 W : World} {rs : List Res} (h : St w0 W rs) : St w0 W (Res.own (.slice none 0 0) ([] : List α) [] :: rs) :=
 h.trade (rs1 := []) (rs2 := [Res.own (.slice none 0 0) ([] : List α) []]) (show ([] : List Nat).Nodup from List.nodup_nil) (fun b hb => absurd (show b ∈ ([] : List Nat) from hb) (by simp)) (by intro r hr; simp at hr; subst hr; exact ⟨nil_Sl.v, by simp⟩)
theorem BeforeE (w : World) {p : Plan} {cs : List Value} {fp : List Nat} (hc : Shape.C w cs p fp) (task : Int) (hn : 1 ≤ p.tasks ∧ p.tasks ≤ 12) (hl : p.edges.length ≤ 30) (hE : EdgesIn p.tasks.toNat p.edges) :
  Calls Tryz.prog 214 #[.agg cs.toArray, I task] w fun e w' => ∃ (v : Value) (fp' : List Nat), e = .returned v ∧ St w w' [Res.own v (cO (cW p.edges task)) fp'] := by
 refine bR Tryz.func214 rfl Tryz.ntmps214 aX (wp_seq (aA (sg (aJ (cs := cs) rfl (St.start w) ?_)))); intro b1 W2 hb3 st4
 refine sg (aC (v := .slice none 0 0) rfl (aB (wp_seq (aA (sg (aT (cs := []) (e := 3) eA (bV cZ _) st4 ?_)))))); intro b8 W9 hb10 st11
 have st11 := st11.row_empty (α := Int)
 refine sg (aC (v := (.slice (some ⟨b8, 0, none⟩) 0 0)) rfl (aB (wp_seq (wp_seq (aA (sg (aC (v := I 0) rfl (aB (wp_block (aY (fun (m : Nat) (f : Nat → Value) (W : World) => ∃ (k : Nat) (v17 : Value), k ≤ p.tasks.toNat ∧ m = p.tasks.toNat - k ∧ Ag [(1, I task), (2, .pointer (some ⟨b1, 0, none⟩)), (5, v17), (6, I (k : Int))] f ∧ St w W ([Res.row (α := Int) 3 v17 (fG (cW p.edges task) k) [], Res.bx b1 cs 106])) (p.tasks.toNat - 0) ?_ ?_))))))))))
 ·exact ⟨0, (.slice (some ⟨b8, 0, none⟩) 0 0), (by first | omega | simp), rfl, (Ag.nil.put.put.put.put.put.put.put.to aE), st11⟩
 intro m18 f19 W20 hJ21
 obtain ⟨k, v17, hcd23_0, rfl, hA23, st22⟩ := hJ21
 refine wp_seq (wp_seq (aA ?_))
 have hk25 := hc
 obtain ⟨v25_0, g25_0, rfl, hok25, h25_0, rfl⟩ := hk25
 refine rn st22 4 hA23 [] [(12, .bool (decide ((k : Int) < p.tasks)))] [qb 1 rfl 3, .o] aE fun f26 h26_ => (aB (aK (h26_.at 12) (fun h27p => ?_) (fun h27p => ?_)))
 ·refine wp_skip (wp_seq (wp_block (wp_seq (aA (sg (aC (v := I 0) rfl (aB (wp_block (aY (fun (m : Nat) (f : Nat → Value) (W : World) => ∃ (i : Nat) (v30 : Value), i ≤ p.edges.length ∧ m = p.edges.length - i ∧ Ag [(1, I task), (2, .pointer (some ⟨b1, 0, none⟩)), (5, v30), (6, I (k : Int)), (7, I (i : Int))] f ∧ St w W ([Res.row (α := Int) 3 v30 (fG (cW p.edges task) k ++ lX (p.edges.take i) task (k : Int)) [], Res.bx b1 [I p.prio, I p.most, I p.wait, I p.tasks, v25_0] 106])) (p.edges.length - 0) ?_ ?_)))))))))
  ·exact ⟨0, v17, (by first | omega | simp), rfl, (h26_.put.to aE), (by have hz := st22; rw [show fG (cW p.edges task) k = fG (cW p.edges task) k ++ lX (p.edges.take 0) task (k : Int) from (List.append_nil _).symm] at hz; exact hz)⟩
  intro m31 f32 W33 hJ34
  obtain ⟨i, v30, hcd36_0, rfl, hA36, st35⟩ := hJ34
  have hol := onesF_len p.edges task (k : Int) i k
  refine wp_seq (wp_seq (aA (rn st35 5 hA36 [] [(19, .bool (decide ((i : Int) < (p.edges.length : Int))))] [qb 1 rfl 4, ql h25_0, .o] aE fun f38 h38_ => (aB (aK (h38_.at 19) (fun h39p => ?_) (fun h39p => ?_))))))
  ·refine wp_skip (wp_seq (wp_block (wp_seq (aA ?_))))
   have hi99fa3 : i < p.edges.length := aD
   have hq_ := idx h25_0 (i := i) hi99fa3
   obtain ⟨b41, o41, cs41, f41, hp41, hr41, hc41, hm41⟩ := hq_
   have hk42 := hc41
   obtain ⟨he42, rfl, hok42⟩ := hk42
   have he42 : _ = [I (p.edges[i]'hi99fa3).from_, I (p.edges[i]'hi99fa3).to_] := he42
   subst he42
   rcases nem ((p.edges[i]'hi99fa3).from_ = (k : Int)) with h43p | h43p
   ·have h43 := decide_eq_false h43p
    refine rn st35 18 h38_ [] [(39, .bool false)] [qb 1 rfl 4, qx hp41, qr hr41 0, qk h43] aE fun f44 h44_ => (aB (gK (h44_.at 39) rfl (wp_skip (aA (rn st35 3 h44_ [7] [(7, I ((i : Int) + 1))] [qad (i : Int) 1] aE fun f46 h46_ => (aB ?_))))))
    exact ⟨_, p.edges.length - (i + 1), aD, rfl, i + 1, v30, aD, rfl, (h46_.to aE), (by rw [qI aD (by intro hh_; exact absurd hh_.1 h43p)]; exact st35)⟩
   ·have h43 := decide_eq_true h43p
    refine rn st35 18 h38_ [] [(39, .bool (decide ((p.edges[i]'hi99fa3).to_ = task)))] [qb 1 rfl 4, qx hp41, qr hr41 0, qk h43, qb 1 rfl 4, qx hp41, qr hr41 1, .o] aE fun f47 h47_ => (aB (aK (h47_.at 39) (fun h48p => ?_) (fun h48p => ?_)))
    ·refine aA (sg (aF (v := v30) (h47_.at 5) (sg (aF (v := I (k : Int)) (h47_.at 6) (sg (aT (cs := [I (k : Int)]) (e := 3) (cY (v := I (k : Int)) rfl eA) (bN cZ _ _ rfl rfl aX) st35 ?_)))))); intro b51 W52 hb53 st54
     refine sg (cP (ys := [(k : Int)]) cZ rfl rfl rfl st54.f1 (Elems.ic (by simp only [I64]; omega) Elems.i0) (by unfold maxLen; omega) aD ?_); intro v57 W58 st59
     refine sg (aC (v := v57) rfl (aB (aA (rn st59 3 h47_.put.put.put.put.put [7] [(7, I ((i : Int) + 1))] [qad (i : Int) 1] aE fun f63 h63_ => (aB ?_)))))
     exact ⟨_, p.edges.length - (i + 1), aD, rfl, i + 1, v57, aD, rfl, (h63_.to aE), (by rw [onesF_step_t aD (by constructor <;> assumption), ← List.append_assoc]; exact st59)⟩
    ·refine wp_skip (aA (rn st35 3 h47_ [7] [(7, I ((i : Int) + 1))] [qad (i : Int) 1] aE fun f65 h65_ => (aB ?_)))
     exact ⟨_, p.edges.length - (i + 1), aD, rfl, i + 1, v30, aD, rfl, (h65_.to aE), (by rw [qI aD (by intro hh_; exact absurd hh_.2 h48p)]; exact st35)⟩
  ·refine wp_exit (aA (rn st35 3 h38_ [6] [(6, I ((k : Int) + 1))] [qad (k : Int) 1] aE fun f67 h67_ => (aB ?_)))
   exact ⟨_, p.tasks.toNat - (k + 1), aD, rfl, k + 1, v30, aD, rfl, (h67_.to aE), (by rw [lJ]; rw [show i = p.edges.length by omega, List.take_length] at st35; exact st35)⟩
 ·refine wp_exit (wp_seq (aA (sg (aF (v := v17) (h26_.at 5) (sg (aC (v := v17) rfl (aB (wr (aL Tryz.results214 rfl ?_)))))))))
  obtain rfl : k = p.tasks.toNat := by omega
  rw [wM (wA hE task)] at st22
  have hq_ := st22.shut
  obtain ⟨fpz, stz⟩ := hq_
  exact ⟨_, fpz, rfl, stz.only 0 rfl⟩
theorem BehindE (w : World) {p : Plan} {cs : List Value} {fp : List Nat} (hc : Shape.C w cs p fp) (task : Int) (hn : 1 ≤ p.tasks ∧ p.tasks ≤ 12) (hl : p.edges.length ≤ 30) (hE : EdgesIn p.tasks.toNat p.edges) :
  Calls Tryz.prog 185 #[.agg cs.toArray, I task] w fun e w' => ∃ (v : Value) (fp' : List Nat), e = .returned v ∧ St w w' [Res.own v (cO (tos p.edges task)) fp'] := by
 refine bR Tryz.func185 rfl Tryz.ntmps185 aX (wp_seq (aA (sg (aJ (cs := cs) rfl (St.start w) ?_)))); intro b1 W2 hb3 st4
 refine sg (aC (v := .slice none 0 0) rfl (aB (wp_seq (aA (sg (aT (cs := []) (e := 3) eA (bV cZ _) st4 ?_)))))); intro b8 W9 hb10 st11
 have st11 := st11.row_empty (α := Int)
 refine sg (aC (v := (.slice (some ⟨b8, 0, none⟩) 0 0)) rfl (aB (wp_seq (wp_seq (aA (sg (aC (v := I 0) rfl (aB (wp_block (aY (fun (m : Nat) (f : Nat → Value) (W : World) => ∃ (k : Nat) (v17 : Value), k ≤ p.tasks.toNat ∧ m = p.tasks.toNat - k ∧ Ag [(1, I task), (2, .pointer (some ⟨b1, 0, none⟩)), (5, v17), (6, I (k : Int))] f ∧ St w W ([Res.row (α := Int) 3 v17 (fG (tos p.edges task) k) [], Res.bx b1 cs 106])) (p.tasks.toNat - 0) ?_ ?_))))))))))
 ·exact ⟨0, (.slice (some ⟨b8, 0, none⟩) 0 0), (by first | omega | simp), rfl, (Ag.nil.put.put.put.put.put.put.put.to aE), st11⟩
 intro m18 f19 W20 hJ21
 obtain ⟨k, v17, hcd23_0, rfl, hA23, st22⟩ := hJ21
 refine wp_seq (wp_seq (aA ?_))
 have hk25 := hc
 obtain ⟨v25_0, g25_0, rfl, hok25, h25_0, rfl⟩ := hk25
 refine rn st22 4 hA23 [] [(12, .bool (decide ((k : Int) < p.tasks)))] [qb 1 rfl 3, .o] aE fun f26 h26_ => (aB (aK (h26_.at 12) (fun h27p => ?_) (fun h27p => ?_)))
 ·refine wp_skip (wp_seq (wp_block (wp_seq (aA (sg (aC (v := I 0) rfl (aB (wp_block (aY (fun (m : Nat) (f : Nat → Value) (W : World) => ∃ (i : Nat) (v30 : Value), i ≤ p.edges.length ∧ m = p.edges.length - i ∧ Ag [(1, I task), (2, .pointer (some ⟨b1, 0, none⟩)), (5, v30), (6, I (k : Int)), (7, I (i : Int))] f ∧ St w W ([Res.row (α := Int) 3 v30 (fG (tos p.edges task) k ++ lW (p.edges.take i) task (k : Int)) [], Res.bx b1 [I p.prio, I p.most, I p.wait, I p.tasks, v25_0] 106])) (p.edges.length - 0) ?_ ?_)))))))))
  ·exact ⟨0, v17, (by first | omega | simp), rfl, (h26_.put.to aE), (by have hz := st22; rw [show fG (tos p.edges task) k = fG (tos p.edges task) k ++ lW (p.edges.take 0) task (k : Int) from (List.append_nil _).symm] at hz; exact hz)⟩
  intro m31 f32 W33 hJ34
  obtain ⟨i, v30, hcd36_0, rfl, hA36, st35⟩ := hJ34
  have hol := onesT_len p.edges task (k : Int) i k
  refine wp_seq (wp_seq (aA (rn st35 5 hA36 [] [(19, .bool (decide ((i : Int) < (p.edges.length : Int))))] [qb 1 rfl 4, ql h25_0, .o] aE fun f38 h38_ => (aB (aK (h38_.at 19) (fun h39p => ?_) (fun h39p => ?_))))))
  ·refine wp_skip (wp_seq (wp_block (wp_seq (aA ?_))))
   have hi99fa3 : i < p.edges.length := aD
   have hq_ := idx h25_0 (i := i) hi99fa3
   obtain ⟨b41, o41, cs41, f41, hp41, hr41, hc41, hm41⟩ := hq_
   have hk42 := hc41
   obtain ⟨he42, rfl, hok42⟩ := hk42
   have he42 : _ = [I (p.edges[i]'hi99fa3).from_, I (p.edges[i]'hi99fa3).to_] := he42
   subst he42
   rcases nem ((p.edges[i]'hi99fa3).from_ = task) with h43p | h43p
   ·have h43 := decide_eq_false h43p
    refine rn st35 18 h38_ [] [(39, .bool false)] [qb 1 rfl 4, qx hp41, qr hr41 0, qk h43] aE fun f44 h44_ => (aB (gK (h44_.at 39) rfl (wp_skip (aA (rn st35 3 h44_ [7] [(7, I ((i : Int) + 1))] [qad (i : Int) 1] aE fun f46 h46_ => (aB ?_))))))
    exact ⟨_, p.edges.length - (i + 1), aD, rfl, i + 1, v30, aD, rfl, (h46_.to aE), (by rw [qH aD (by intro hh_; exact absurd hh_.1 h43p)]; exact st35)⟩
   ·have h43 := decide_eq_true h43p
    refine rn st35 18 h38_ [] [(39, .bool (decide ((p.edges[i]'hi99fa3).to_ = (k : Int))))] [qb 1 rfl 4, qx hp41, qr hr41 0, qk h43, qb 1 rfl 4, qx hp41, qr hr41 1, .o] aE fun f47 h47_ => (aB (aK (h47_.at 39) (fun h48p => ?_) (fun h48p => ?_)))
    ·refine aA (sg (aF (v := v30) (h47_.at 5) (sg (aF (v := I (k : Int)) (h47_.at 6) (sg (aT (cs := [I (k : Int)]) (e := 3) (cY (v := I (k : Int)) rfl eA) (bN cZ _ _ rfl rfl aX) st35 ?_)))))); intro b51 W52 hb53 st54
     refine sg (cP (ys := [(k : Int)]) cZ rfl rfl rfl st54.f1 (Elems.ic (by simp only [I64]; omega) Elems.i0) (by unfold maxLen; omega) aD ?_); intro v57 W58 st59
     refine sg (aC (v := v57) rfl (aB (aA (rn st59 3 h47_.put.put.put.put.put [7] [(7, I ((i : Int) + 1))] [qad (i : Int) 1] aE fun f63 h63_ => (aB ?_)))))
     exact ⟨_, p.edges.length - (i + 1), aD, rfl, i + 1, v57, aD, rfl, (h63_.to aE), (by rw [onesT_step_t aD (by constructor <;> assumption), ← List.append_assoc]; exact st59)⟩
    ·refine wp_skip (aA (rn st35 3 h47_ [7] [(7, I ((i : Int) + 1))] [qad (i : Int) 1] aE fun f65 h65_ => (aB ?_)))
     exact ⟨_, p.edges.length - (i + 1), aD, rfl, i + 1, v30, aD, rfl, (h65_.to aE), (by rw [qH aD (by intro hh_; exact absurd hh_.2 h48p)]; exact st35)⟩
  ·refine wp_exit (aA (rn st35 3 h38_ [6] [(6, I ((k : Int) + 1))] [qad (k : Int) 1] aE fun f67 h67_ => (aB ?_)))
   exact ⟨_, p.tasks.toNat - (k + 1), aD, rfl, k + 1, v30, aD, rfl, (h67_.to aE), (by rw [lJ]; rw [show i = p.edges.length by omega, List.take_length] at st35; exact st35)⟩
 ·refine wp_exit (wp_seq (aA (sg (aF (v := v17) (h26_.at 5) (sg (aC (v := v17) rfl (aB (wr (aL Tryz.results185 rfl ?_)))))))))
  obtain rfl : k = p.tasks.toNat := by omega
  rw [wM (zG hE task)] at st22
  have hq_ := st22.shut
  obtain ⟨fpz, stz⟩ := hq_
  exact ⟨_, fpz, rfl, stz.only 0 rfl⟩
theorem BeforeOfI (w : World) {p : Plan} {cs : List Value} {fp : List Nat} (hc : Shape.C w cs p fp) (task : Int) :
  Calls Tryz.prog 231 #[.agg cs.toArray, I task] w fun e w' => ∃ (v : Value) (fp' : List Nat), e = .returned v ∧ St w w' [Res.own v (cH p task) fp'] := by
 refine bR Tryz.func231 rfl Tryz.ntmps231 aX (wp_seq (aA (sg (aJ (cs := cs) rfl (St.start w) ?_)))); intro b1 W2 hb3 st4
 refine sg (aC (v := .slice none 0 0) rfl (aB (wp_seq (wp_seq (aA (rc st4 3 Ag.nil.put.put.put.put [] [(10, .bool (!decide ((cX p) = 0)))] [qw 0 rfl (Shape.len hc), qc Tryz.func160 rfl (fun W s b => mV W (bA hc s.below)), .o] aE fun f9 W10 h9_ st11 hb12 => (aB (cB (h9_.at 10) (fun h13p => ?_) (fun h13p => ?_)))))))))
 ·refine wp_seq (aA (sg (aC (v := .slice none 0 0) rfl (aB (wr (aL Tryz.results231 rfl ?_))))))
  have hb : cH p task = [] := by unfold cH; rw [if_neg (by assumption)]
  rw [hb]
  exact ⟨_, [], rfl, (St.own_nil (α := Int) st11).only 0 rfl⟩
 ·refine wp_skip (wp_seq (aA ?_))
  have hF0 : cX p = 0 := by omega
  have hq_ := lU hF0
  obtain ⟨hM, hE, _, _⟩ := hq_
  have hMb := pM hM
  refine sg (aC (v := .slice none 0 0) rfl (aB (wp_seq (wp_seq (aA ?_)))))
  have hk19 := hc
  obtain ⟨v19_0, g19_0, rfl, hok19, h19_0, rfl⟩ := hk19
  refine rn st11 4 h9_.put [] [(12, v19_0), (13, I (p.edges.length : Int)), (14, I 0)] [qb 0 rfl 4, ql h19_0] aE fun f20 h20_ => (aB (wp_block ?_))
  have st22 := st11.row_nil (α := Int) 3
  refine aY (fun (m : Nat) (f : Nat → Value) (W : World) => ∃ (k : Nat) (v21 : Value), k ≤ p.edges.length ∧ m = p.edges.length - k ∧ Ag [(1, I task), (5, v21), (12, v19_0), (13, I (p.edges.length : Int)), (14, I (k : Int))] f ∧ St w W ([Res.row (α := Int) 3 v21 (cW (p.edges.take k) task) [], Res.bx b1 [I p.prio, I p.most, I p.wait, I p.tasks, v19_0] 106])) (p.edges.length - 0) ?_ ?_
  ·exact ⟨0, (.slice none 0 0), (by first | omega | simp), rfl, (h20_.to aE), st22⟩
  intro m24 f25 W26 hJ27
  obtain ⟨k, v21, hcd29_0, rfl, hA29, st28⟩ := hJ27
  have hfl := rV (p.edges.take k) task
  have htl := List.length_take_le k p.edges
  refine wp_seq (aA (sg (bS (hA29.at 14) (hA29.at 13) (aB (wp_seq (aK rfl (fun h32p => ?_) (fun h32p => ?_)))))))
  ·refine wp_skip (wp_seq (wp_block (wp_seq (aA ?_))))
   have hiab516 : k < p.edges.length := aD
   have hq_ := idx h19_0 (i := k) hiab516
   obtain ⟨b33, o33, cs33, f33, hp33, hr33, hc33, hm33⟩ := hq_
   refine sg (aN iG (hA29.at 12) hp33 (hA29.at 14) rfl (sg (dL gA rfl rfl hr33 st28.below (Shape.len hc33) (sg (aR kX st28 ?_))))); intro b36 W37 hb38 st39
   refine sgn (aO (cs := cs33) gA hc33 rfl rfl st39 rfl ?_); intro W41 st42
   refine aB (wp_seq (aA (sg (aH rY rfl ?_))))
   have hea := hE.at (k := k) aD
   have hk45 := hc33
   obtain ⟨he45, rfl, hok45⟩ := hk45
   have he45 : _ = [I (p.edges[k]'hiab516).from_, I (p.edges[k]'hiab516).to_] := he45
   subst he45
   refine rn st42 3 hA29.put.put.put.put.put [] [(21, .bool (decide ((p.edges[k]'hiab516).to_ = task)))] [qb 0 rfl 1, .o] aE fun f47 h47_ => (aB (aK (h47_.at 21) (fun h48p => ?_) (fun h48p => ?_)))
   ·refine aA (rn st42 3 h47_ [] [(22, v21), (24, I (p.edges[k]'hiab516).from_)] [qb 0 rfl 0] aE fun f50 h50_ => (sg (aT (cs := [I (p.edges[k]'hiab516).from_]) (e := 3) (cY (v := I (p.edges[k]'hiab516).from_) (h50_.at 24) eA) (bN cZ _ _ rfl rfl aX) st42 ?_))); intro b51 W52 hb53 st54
    refine sg (cP (ys := [(p.edges[k]'hiab516).from_]) cZ (h50_.at 22) rfl rfl st54.f2 (Elems.ic (by have := hc; simp only [I64]; omega) Elems.i0) (by unfold maxLen; omega) aD ?_); intro v57 W58 st59
    refine sg (aC (v := v57) rfl (aB (aA (sg (bY (h50_.at 14) rfl dX (sg (aF (v := I ((k : Int) + 1)) rfl (aB ?_))))))))
    exact ⟨_, p.edges.length - (k + 1), aD, rfl, k + 1, v57, aD, rfl, (h50_.put.put.put.put.put.to aE), (by rw [mO aD h48p]; exact st59.f2.f1.d2)⟩
   ·refine wp_skip (aA (sg (bY (h47_.at 14) rfl dX (sg (aF (v := I ((k : Int) + 1)) rfl (aB ?_))))))
    exact ⟨_, p.edges.length - (k + 1), aD, rfl, k + 1, v21, aD, rfl, (h47_.put.put.to aE), (by rw [qT aD h48p]; exact st42.f2.f2.d2)⟩
  ·refine wp_exit (wp_seq (aA (sg (aF (v := v21) (hA29.at 5) ?_))))
   have hq_ := st28.shut
   obtain ⟨fp75, st76⟩ := hq_
   refine sg (bF Tryz.func226 rfl rfl ((aA6 st76 (by rw [List.take_of_length_le aD] at hfl; rw [List.take_of_length_le aD]; omega)).mono ?_)); rintro _ W74 ⟨rfl, fp78, st77⟩; refine ⟨_, rfl, ?_⟩
   refine aB (wp_seq (aA (sg (aF (v := v21) (hA29.at 5) (sg (aC (v := v21) rfl (aB (wr (aL Tryz.results231 rfl ?_)))))))))
   obtain rfl : k = p.edges.length := by omega
   rw [List.take_length] at st77
   have hb : cH p task = cO (cW p.edges task) := by unfold cH; rw [if_pos aD]
   rw [hb]
   exact ⟨_, _, rfl, st77.only 0 rfl⟩
theorem BehindOfI (w : World) {p : Plan} {cs : List Value} {fp : List Nat} (hc : Shape.C w cs p fp) (task : Int) :
  Calls Tryz.prog 188 #[.agg cs.toArray, I task] w fun e w' => ∃ (v : Value) (fp' : List Nat), e = .returned v ∧ St w w' [Res.own v (cS p task) fp'] := by
 refine bR Tryz.func188 rfl Tryz.ntmps188 aX (wp_seq (aA (sg (aJ (cs := cs) rfl (St.start w) ?_)))); intro b1 W2 hb3 st4
 refine sg (aC (v := .slice none 0 0) rfl (aB (wp_seq (wp_seq (aA (rc st4 3 Ag.nil.put.put.put.put [] [(10, .bool (!decide ((cX p) = 0)))] [qw 0 rfl (Shape.len hc), qc Tryz.func160 rfl (fun W s b => mV W (bA hc s.below)), .o] aE fun f9 W10 h9_ st11 hb12 => (aB (cB (h9_.at 10) (fun h13p => ?_) (fun h13p => ?_)))))))))
 ·refine wp_seq (aA (sg (aC (v := .slice none 0 0) rfl (aB (wr (aL Tryz.results188 rfl ?_))))))
  have hb : cS p task = [] := by unfold cS; rw [if_neg (by assumption)]
  rw [hb]
  exact ⟨_, [], rfl, (St.own_nil (α := Int) st11).only 0 rfl⟩
 ·refine wp_skip (wp_seq (aA ?_))
  have hF0 : cX p = 0 := by omega
  have hq_ := lU hF0
  obtain ⟨hM, hE, _, _⟩ := hq_
  have hMb := pM hM
  refine sg (aC (v := .slice none 0 0) rfl (aB (wp_seq (wp_seq (aA ?_)))))
  have hk19 := hc
  obtain ⟨v19_0, g19_0, rfl, hok19, h19_0, rfl⟩ := hk19
  refine rn st11 4 h9_.put [] [(12, v19_0), (13, I (p.edges.length : Int)), (14, I 0)] [qb 0 rfl 4, ql h19_0] aE fun f20 h20_ => (aB (wp_block ?_))
  have st22 := st11.row_nil (α := Int) 3
  refine aY (fun (m : Nat) (f : Nat → Value) (W : World) => ∃ (k : Nat) (v21 : Value), k ≤ p.edges.length ∧ m = p.edges.length - k ∧ Ag [(1, I task), (5, v21), (12, v19_0), (13, I (p.edges.length : Int)), (14, I (k : Int))] f ∧ St w W ([Res.row (α := Int) 3 v21 (tos (p.edges.take k) task) [], Res.bx b1 [I p.prio, I p.most, I p.wait, I p.tasks, v19_0] 106])) (p.edges.length - 0) ?_ ?_
  ·exact ⟨0, (.slice none 0 0), (by first | omega | simp), rfl, (h20_.to aE), st22⟩
  intro m24 f25 W26 hJ27
  obtain ⟨k, v21, hcd29_0, rfl, hA29, st28⟩ := hJ27
  have hfl := wU (p.edges.take k) task
  have htl := List.length_take_le k p.edges
  refine wp_seq (aA (sg (bS (hA29.at 14) (hA29.at 13) (aB (wp_seq (aK rfl (fun h32p => ?_) (fun h32p => ?_)))))))
  ·refine wp_skip (wp_seq (wp_block (wp_seq (aA ?_))))
   have hiab516 : k < p.edges.length := aD
   have hq_ := idx h19_0 (i := k) hiab516
   obtain ⟨b33, o33, cs33, f33, hp33, hr33, hc33, hm33⟩ := hq_
   refine sg (aN iG (hA29.at 12) hp33 (hA29.at 14) rfl (sg (dL gA rfl rfl hr33 st28.below (Shape.len hc33) (sg (aR kX st28 ?_))))); intro b36 W37 hb38 st39
   refine sgn (aO (cs := cs33) gA hc33 rfl rfl st39 rfl ?_); intro W41 st42
   refine aB (wp_seq (aA (sg (aH rZ rfl ?_))))
   have hea := hE.at (k := k) aD
   have hk45 := hc33
   obtain ⟨he45, rfl, hok45⟩ := hk45
   have he45 : _ = [I (p.edges[k]'hiab516).from_, I (p.edges[k]'hiab516).to_] := he45
   subst he45
   refine rn st42 3 hA29.put.put.put.put.put [] [(21, .bool (decide ((p.edges[k]'hiab516).from_ = task)))] [qb 0 rfl 0, .o] aE fun f47 h47_ => (aB (aK (h47_.at 21) (fun h48p => ?_) (fun h48p => ?_)))
   ·refine aA (rn st42 3 h47_ [] [(22, v21), (24, I (p.edges[k]'hiab516).to_)] [qb 0 rfl 1] aE fun f50 h50_ => (sg (aT (cs := [I (p.edges[k]'hiab516).to_]) (e := 3) (cY (v := I (p.edges[k]'hiab516).to_) (h50_.at 24) eA) (bN cZ _ _ rfl rfl aX) st42 ?_))); intro b51 W52 hb53 st54
    refine sg (cP (ys := [(p.edges[k]'hiab516).to_]) cZ (h50_.at 22) rfl rfl st54.f2 (Elems.ic (by have := hc; simp only [I64]; omega) Elems.i0) (by unfold maxLen; omega) aD ?_); intro v57 W58 st59
    refine sg (aC (v := v57) rfl (aB (aA (sg (bY (h50_.at 14) rfl dX (sg (aF (v := I ((k : Int) + 1)) rfl (aB ?_))))))))
    exact ⟨_, p.edges.length - (k + 1), aD, rfl, k + 1, v57, aD, rfl, (h50_.put.put.put.put.put.to aE), (by rw [oX aD h48p]; exact st59.f2.f1.d2)⟩
   ·refine wp_skip (aA (sg (bY (h47_.at 14) rfl dX (sg (aF (v := I ((k : Int) + 1)) rfl (aB ?_))))))
    exact ⟨_, p.edges.length - (k + 1), aD, rfl, k + 1, v21, aD, rfl, (h47_.put.put.to aE), (by rw [sZ aD h48p]; exact st42.f2.f2.d2)⟩
  ·refine wp_exit (wp_seq (aA (sg (aF (v := v21) (hA29.at 5) ?_))))
   have hq_ := st28.shut
   obtain ⟨fp75, st76⟩ := hq_
   refine sg (bF Tryz.func226 rfl rfl ((aA6 st76 (by rw [List.take_of_length_le aD] at hfl; rw [List.take_of_length_le aD]; omega)).mono ?_)); rintro _ W74 ⟨rfl, fp78, st77⟩; refine ⟨_, rfl, ?_⟩
   refine aB (wp_seq (aA (sg (aF (v := v21) (hA29.at 5) (sg (aC (v := v21) rfl (aB (wr (aL Tryz.results188 rfl ?_)))))))))
   obtain rfl : k = p.edges.length := by omega
   rw [List.take_length] at st77
   have hb : cS p task = cO (tos p.edges task) := by unfold cS; rw [if_pos aD]
   rw [hb]
   exact ⟨_, _, rfl, st77.only 0 rfl⟩
def cM (ts : List Task) (s : Int) : Int := ((ts.filter (fun t => decide (t.state = s))).length : Int)
def eT (ts : List Task) : List Int := [cM ts 0, cM ts 1, cM ts 2, cM ts 3, cM ts 4, cM ts 5, cM ts 6]
theorem dV (ts : List Task) (s : Int) : 0 ≤ cM ts s := by unfold cM; omega
theorem mR (ts : List Task) (s : Int) : cM ts s ≤ ts.length := by
 unfold cM
 have := List.length_filter_le (fun t : Task => decide (t.state = s)) ts
 omega
theorem wI {ts : List Task} {k : Nat} (hk : k < ts.length) (s : Int) : cM (ts.take (k + 1)) s = cM (ts.take k) s + (if ts[k].state = s then 1 else 0) := by
 unfold cM
 rw [List.take_succ_eq_append_getElem hk, List.filter_append]
 by_cases h : ts[k].state = s <;> simp [h]
theorem rC (ts : List Task) : (eT ts).length = 7 := rfl
theorem cnts_nil : eT [] = [0, 0, 0, 0, 0, 0, 0] := rfl
theorem cnts_set {ts : List Task} {k : Nat} (hk : k < ts.length) (h : 1 ≤ ts[k].state ∧ ts[k].state ≤ 6) (hl : ts[k].state.toNat < (eT (ts.take k)).length) :
  (eT (ts.take k)).set ts[k].state.toNat ((eT (ts.take k))[ts[k].state.toNat]'hl + 1) = eT (ts.take (k + 1)) := by
 have hc : ts[k].state = 1 ∨ ts[k].state = 2 ∨ ts[k].state = 3 ∨ ts[k].state = 4 ∨ ts[k].state = 5 ∨ ts[k].state = 6 := by omega
 have e : eT (ts.take (k + 1)) = [cM (ts.take k) 0 + (if ts[k].state = 0 then 1 else 0), cM (ts.take k) 1 + (if ts[k].state = 1 then 1 else 0), cM (ts.take k) 2 + (if ts[k].state = 2 then 1 else 0), cM (ts.take k) 3 + (if ts[k].state = 3 then 1 else 0), cM (ts.take k) 4 + (if ts[k].state = 4 then 1 else 0), cM (ts.take k) 5 + (if ts[k].state = 5 then 1 else 0), cM (ts.take k) 6 + (if ts[k].state = 6 then 1 else 0)] := by
  unfold eT
  simp only [wI hk]
 rw [e]
 generalize ts[k].state = s at hc hl ⊢
 rcases hc with rfl | rfl | rfl | rfl | rfl | rfl <;> simp [eT]
theorem cnts_rng (ts : List Task) (i : Nat) (h : i < (eT ts).length) : 0 ≤ (eT ts)[i] ∧ (eT ts)[i] ≤ ts.length := by
 have hm : (eT ts)[i] ∈ eT ts := List.getElem_mem h
 generalize (eT ts)[i] = y at hm
 simp only [eT, List.mem_cons, List.not_mem_nil, or_false] at hm
 rcases hm with rfl | rfl | rfl | rfl | rfl | rfl | rfl <;> exact ⟨dV _ _, mR _ _⟩
theorem aA3 : ∀ {ts : List Task}, (∀ t ∈ ts, 1 ≤ t.state ∧ t.state ≤ 6) → cM ts 1 + cM ts 2 + cM ts 3 + cM ts 4 + cM ts 5 + cM ts 6 = ts.length
 | [], _ => rfl
 | t :: ts, h => by
  have ih := aA3 (ts := ts) (fun x hx => h x (by simp [hx]))
  have ht := h t (by simp)
  have hs : ∀ s : Int, cM (t :: ts) s = cM ts s + (if t.state = s then 1 else 0) := by
   intro s
   unfold cM
   by_cases hh : t.state = s <;> simp [hh]
  simp only [hs, List.length_cons]
  have hc : t.state = 1 ∨ t.state = 2 ∨ t.state = 3 ∨ t.state = 4 ∨ t.state = 5 ∨ t.state = 6 := by omega
  rcases hc with e | e | e | e | e | e <;> simp [e] <;> omega
theorem sD (ts : List Task) (s : Int) : ∀ k, k ≤ ts.length → ((gW ts s k).length : Int) = cM (ts.take k) s
 | 0, _ => rfl
 | k + 1, h => by
  have ih := sD ts s k aD
  have hk : k < ts.length := by omega
  rw [wI hk]
  by_cases hh : ts[k].state = s
  ·rw [nT hk hh, List.length_append, if_pos hh, List.length_singleton]; omega
  ·rw [rK hk hh, if_neg hh]; omega
theorem jS (ts : List Task) (s : Int) : ((bC ts s).length : Int) = cM ts s := by
 have := sD ts s ts.length (Nat.le_refl _)
 rwa [List.take_length] at this
def dM (ts : List Task) : Int :=
 if cM ts 4 = ts.length then 2 else if cM ts 5 = 1 ∧ cM ts 1 + cM ts 2 + cM ts 3 = 0 then 3 else if cM ts 5 = 0 ∧ 0 < cM ts 6 ∧ cM ts 1 + cM ts 2 + cM ts 3 = 0 then 4 else if cM ts 5 = 0 ∧ cM ts 6 = 0 then 1 else 0
def mN (r : Run) (x : Int) : Bool := match r.tasks[x.toNat]? with | some t => decide (t.state = 4) | none => false
def dU (r : Run) (l : List Int) : Int := ((l.filter (fun b => !mN r b)).length : Int)
noncomputable def iN (r : Run) (task : Int) : Int := dU r (cH r.plan task)
theorem lD {r : Run} {l : List Int} {k : Nat} (hk : k < l.length) : dU r (l.take (k + 1)) = dU r (l.take k) + (if mN r l[k] then 0 else 1) := by
 unfold dU
 rw [List.take_succ_eq_append_getElem hk, List.filter_append]
 cases h : mN r l[k] <;> simp [h]
theorem pF (r : Run) (l : List Int) : 0 ≤ dU r l ∧ dU r l ≤ l.length := by
 unfold dU
 have := List.length_filter_le (fun b => !mN r b) l
 omega
def bU (r : Run) (need : Int) (t : Task) : Prop :=
 (1 ≤ t.state ∧ t.state ≤ 6) ∧ t.need = need ∧ (0 ≤ t.try_ ∧ t.try_ ≤ r.plan.most) ∧ (t.state = 3 → 1 ≤ t.until_ ∧ t.until_ ≤ 1000000000) ∧ (¬ t.state = 3 → t.until_ = 0) ∧
 (t.state = 1 → 0 < need) ∧ (t.state = 2 → need = 0 ∧ t.try_ < r.plan.most) ∧ ((t.state = 3 ∨ t.state = 4 ∨ t.state = 5) → need = 0 ∧ 1 ≤ t.try_)
def lA (r : Run) (k : Nat) : Prop := ∀ h : k < r.tasks.length, bU r (iN r (k : Int)) r.tasks[k]
noncomputable def dK (r : Run) : Bool := pB ((1 ≤ r.id ∧ r.id ≤ 9999) ∧ cX r.plan = 0 ∧ (r.tasks.length : Int) = r.plan.tasks ∧ (∀ k, k < r.tasks.length → lA r k) ∧ r.state = dM r.tasks ∧ ¬ r.state = 0)
theorem oF {r : Run} {x : Int} (h : x.toNat < r.tasks.length) : mN r x = decide (r.tasks[x.toNat].state = 4) := by
 unfold mN; rw [List.getElem?_eq_getElem h]
theorem yY {p : Prop} (h : pB p = false) : ¬ p := fun hp => by rw [gG hp] at h; cases h
theorem oR (ts : List Task) : (cM ts 4 = ts.length → dM ts = 2) ∧ (¬ cM ts 4 = ts.length → (cM ts 5 = 1 ∧ cM ts 1 + cM ts 2 + cM ts 3 = 0) → dM ts = 3) ∧
  (¬ cM ts 4 = ts.length → ¬ (cM ts 5 = 1 ∧ cM ts 1 + cM ts 2 + cM ts 3 = 0) → (cM ts 5 = 0 ∧ 0 < cM ts 6 ∧ cM ts 1 + cM ts 2 + cM ts 3 = 0) → dM ts = 4) ∧
  (¬ cM ts 4 = ts.length → ¬ (cM ts 5 = 1 ∧ cM ts 1 + cM ts 2 + cM ts 3 = 0) → ¬ (cM ts 5 = 0 ∧ 0 < cM ts 6 ∧ cM ts 1 + cM ts 2 + cM ts 3 = 0) → (cM ts 5 = 0 ∧ cM ts 6 = 0) → dM ts = 1) ∧
  (¬ cM ts 4 = ts.length → ¬ (cM ts 5 = 1 ∧ cM ts 1 + cM ts 2 + cM ts 3 = 0) → ¬ (cM ts 5 = 0 ∧ 0 < cM ts 6 ∧ cM ts 1 + cM ts 2 + cM ts 3 = 0) → ¬ (cM ts 5 = 0 ∧ cM ts 6 = 0) → dM ts = 0) := by
 unfold dM
 refine ⟨fun h => by rw [if_pos h], fun h h2 => by rw [if_neg h, if_pos h2], fun h h2 h3 => by rw [if_neg h, if_neg h2, if_pos h3], fun h h2 h3 h4 => by rw [if_neg h, if_neg h2, if_neg h3, if_pos h4], fun h h2 h3 h4 => by rw [if_neg h, if_neg h2, if_neg h3, if_neg h4]⟩
theorem states_of {r : Run} (h : ∀ j, j < r.tasks.length → lA r j) : ∀ t ∈ r.tasks, 1 ≤ t.state ∧ t.state ≤ 6 := by
 intro t ht
 obtain ⟨k, hk, rfl⟩ := List.getElem_of_mem ht
 exact (h k hk hk).1
theorem sA (ts : List Task) (i : Nat) (h : i < (eT ts).length) : (eT ts)[i] = cM ts (i : Int) := by
 rw [rC] at h
 rcases i with _ | _ | _ | _ | _ | _ | _ | i
 ·rfl
 ·rfl
 ·rfl
 ·rfl
 ·rfl
 ·rfl
 ·rfl
 ·omega

theorem aA7 (w : World) {r : Run} {cs : List Value} {fp : List Nat} (hc : Shape.C w cs r fp) (task : Int) (hlen : (r.tasks.length : Int) = r.plan.tasks) :
  Calls Tryz.prog 217 #[.agg cs.toArray, I task] w fun e w' => e = .returned (I (iN r task)) ∧ St w w' [] := by
 refine bR Tryz.func217 rfl Tryz.ntmps217 aX (wp_seq (aA (sg (aJ (cs := cs) rfl (St.start w) ?_)))); intro b1 W2 hb3 st4
 refine sg (aC (v := I 0) rfl (aB (wp_seq (aA (sg (aC (v := I 0) rfl (aB (wp_seq (wp_seq (aA ?_))))))))))
 have hk11 := hc
 obtain ⟨v11_0, v11_1, g11_0, g11_1, rfl, hok11, h11_0, h11_1, rfl⟩ := hk11
 refine rn st4 3 Ag.nil.put.put.put.put.put [] [(9, .agg #[I r.plan.prio, I r.plan.most, I r.plan.wait, I r.plan.tasks, v11_0]), (10, I task)] [qb 0 rfl 1] aE fun f12 h12_ => (sg (bJ Tryz.func231 rfl (h12_.at 9) (h12_.at 10) ((BeforeOfI W2 (show Shape.C _ [I r.plan.prio, I r.plan.most, I r.plan.wait, I r.plan.tasks, v11_0] r.plan _ from ⟨_, _, rfl, eS, (h11_0.below st4.below), rfl⟩) task).mono ?_))); rintro _ W15 ⟨v13, fp13, rfl, hk16⟩; refine ⟨_, rfl, ?_⟩
 have st17 := St.call st4 hk16
 refine sg (fK eP rfl (aI (st17.get 0 rfl)) ?_)
 have hbl := kV r.plan task
 refine sg (aF (v := I 0) rfl (aB (wp_block (aY (fun (m : Nat) (f : Nat → Value) (W : World) => ∃ (k : Nat), k ≤ (cH r.plan task).length ∧ m = (cH r.plan task).length - k ∧ Ag [(2, .pointer (some ⟨b1, 0, none⟩)), (5, I (dU r ((cH r.plan task).take k))), (11, v13), (12, I ((cH r.plan task).length : Int)), (13, I (k : Int))] f ∧ St w W ([Res.own (α := List Int) v13 (cH r.plan task) fp13, Res.bx b1 [I r.id, I r.plan.prio, I r.plan.most, I r.plan.wait, I r.plan.tasks, v11_0, I r.state, v11_1] 123])) ((cH r.plan task).length - 0) ?_ ?_))))
 ·exact ⟨0, aD, rfl, (h12_.put.put.put.to aE), st17⟩
 intro m23 f24 W25 hJ26
 obtain ⟨k, hk, rfl, hA28, st27⟩ := hJ26
 have hnr := pF r ((cH r.plan task).take k)
 have htl := List.length_take_le k (cH r.plan task)
 refine wp_seq (aA (sg (bS (hA28.at 13) (hA28.at 12) (aB (wp_seq (aK rfl (fun h31p => ?_) (fun h31p => ?_)))))))
 ·refine wp_skip (wp_seq (wp_block (wp_seq (aA ?_))))
  have hi15359 : k < (cH r.plan task).length := aD
  have hq_ := idx (aI (st27.get 0 rfl)) (i := k) hi15359
  obtain ⟨b32, o32, cs32, f32, hp32, hr32, hc32, hm32⟩ := hq_
  have hk32 := hc32
  obtain ⟨rfl, rfl, hok32⟩ := hk32
  refine rn st27 3 hA28.put [] [(7, I ((cH r.plan task)[k]'hi15359))] [qx hp32, qn hr32 0] aE fun f34 h34_ => (aB (wp_seq (aA (rn st27 3 h34_ [] [(18, v11_1), (19, I ((cH r.plan task)[k]'hi15359))] [qb 1 rfl 7] aE fun f36 h36_ => ?_))))
  have hbr := uT r.plan task _ (List.getElem_mem (l := (cH r.plan task)) (n := k) aD)
  have hi20db9 : (((cH r.plan task)[k]'hi15359)).toNat < r.tasks.length := aD
  have hq_ := idx h11_1 (i := (((cH r.plan task)[k]'hi15359)).toNat) hi20db9
  obtain ⟨b37, o37, cs37, f37, hp37, hr37, hc37, hm37⟩ := hq_
  have hk39 := hc37
  obtain ⟨he39, rfl, hok39⟩ := hk39
  have he39 : _ = [I (r.tasks[(((cH r.plan task)[k]'hi15359)).toNat]'hi20db9).state, I (r.tasks[(((cH r.plan task)[k]'hi15359)).toNat]'hi20db9).need, I (r.tasks[(((cH r.plan task)[k]'hi15359)).toNat]'hi20db9).try_, I (r.tasks[(((cH r.plan task)[k]'hi15359)).toNat]'hi20db9).until_] := he39
  subst he39
  refine rn st27 4 h36_ [] [(23, .bool (!decide ((r.tasks[(((cH r.plan task)[k]'hi15359)).toNat]'hi20db9).state = 4)))] [qxe hp37 (e := ((cH r.plan task)[k]'hi15359)) aD, qr hr37 0, .o] aE fun f40 h40_ => (aB (cB (h40_.at 23) (fun h41p => ?_) (fun h41p => ?_)))
  ·refine aA (rn st27 3 h40_ [5] [(5, I ((dU r ((cH r.plan task).take k)) + 1))] [qad (dU r ((cH r.plan task).take k)) 1] aE fun f43 h43_ => (aB (aA (sg (bY (h43_.at 13) rfl dX ?_)))))
   have hbl := kV r.plan task
   refine sg (aF (v := I ((k : Int) + 1)) rfl (aB ?_))
   exact ⟨_, (cH r.plan task).length - (k + 1), aD, rfl, k + 1, aD, rfl, (Ag.cons (h43_.at 2) (Ag.cons (Eq.trans (show _ = I ((dU r ((cH r.plan task).take k)) + 1) from (h43_.at 5)) (congrArg I (by rw [lD aD, oF aD]; simp only [h41p, decide_true, decide_false, Bool.false_eq_true, if_true, if_false]; try omega))) (Ag.cons (h43_.at 11) (Ag.cons (h43_.at 12) (Ag.cons rfl Ag.nil))))), st27⟩
  ·refine wp_skip (aA (sg (bY (h40_.at 13) rfl dX ?_)))
   have hbl := kV r.plan task
   refine sg (aF (v := I ((k : Int) + 1)) rfl (aB ?_))
   exact ⟨_, (cH r.plan task).length - (k + 1), aD, rfl, k + 1, aD, rfl, (Ag.cons (h40_.at 2) (Ag.cons (Eq.trans (show _ = I (dU r ((cH r.plan task).take k)) from (h40_.at 5)) (congrArg I (by rw [lD aD, oF aD]; simp only [h41p, decide_true, decide_false, Bool.false_eq_true, if_true, if_false]; try omega))) (Ag.cons (h40_.at 11) (Ag.cons (h40_.at 12) (Ag.cons rfl Ag.nil))))), st27⟩
 ·refine wp_exit (wp_seq (aA (sg (aF (v := I (dU r ((cH r.plan task).take k))) (hA28.at 5) (sg (aC (v := I (dU r ((cH r.plan task).take k))) rfl (aB (wr (aL Tryz.results217 rfl ?_)))))))))
  obtain rfl : k = (cH r.plan task).length := by omega
  exact ⟨(fI (by rw [List.take_length]; rfl)), st27.bare⟩
theorem TaskOkI (w : World) {r : Run} {cs : List Value} {fp : List Nat} (hc : Shape.C w cs r fp) {k : Nat} (hk : k < r.tasks.length) (hlen : (r.tasks.length : Int) = r.plan.tasks) :
  Calls Tryz.prog 161 #[.agg cs.toArray, I (k : Int)] w fun e w' => e = .returned (.bool (pB (bU r (iN r (k : Int)) (r.tasks[k]'hk)))) ∧ St w w' [] := by
 have hcap : r.tasks.length ≤ 9223372036854775807 := by have h0 := hc; obtain ⟨v1, v2, f1, f2, h0, hok, h1, h2, hfp⟩ := h0; exact h2.len_le
 refine bR Tryz.func161 rfl Tryz.ntmps161 aX (wp_seq (aA (sg (aJ (cs := cs) rfl (St.start w) ?_)))); intro b1 W2 hb3 st4
 refine sg (aC (v := .bool false) rfl (aB (wp_seq (aA ?_))))
 have hk9 := hc
 obtain ⟨v9_0, v9_1, g9_0, g9_1, rfl, hok9, h9_0, h9_1, rfl⟩ := hk9
 have hif4d94 : k < r.tasks.length := aD
 have hq_ := idx h9_1 (i := k) hif4d94
 obtain ⟨b10, o10, cs10, f10, hp10, hr10, hc10, hm10⟩ := hq_
 refine rn st4 5 Ag.nil.put.put.put.put [] [(10, .agg cs10.toArray)] [qb 0 rfl 7, qx hp10, qrw hr10 (Shape.len hc10)] aE fun f11 h11_ => (sg (aR kA st4 ?_)); intro b12 W13 hb14 st15
 refine sgn (aO (cs := cs10) kG hc10 rfl (h11_.at 10) st15 rfl ?_); intro W17 st18
 refine aB (wp_seq (wp_seq ?_))
 rcases bd (!(inB (r.tasks[k]'hif4d94).state 1 6)) with h21 | h21
 ·have h21p := inB_iff'.1 (bG h21)
  rcases Decidable.em ((r.tasks[k]'hif4d94).need = (iN r (k : Int))) with h24p | h24p
  ·have h24 := gS h24p
   have hk26 := hc10
   obtain ⟨he26, rfl, hok26⟩ := hk26
   have he26 : _ = [I (r.tasks[k]'hif4d94).state, I (r.tasks[k]'hif4d94).need, I (r.tasks[k]'hif4d94).try_, I (r.tasks[k]'hif4d94).until_] := he26
   subst he26
   refine rd st18 h11_.put [] [(31, .bool (!(inB (r.tasks[k]'hif4d94).try_ 0 r.plan.most)))] [qb 0 rfl 0, qc (args := [I (r.tasks[k]'hif4d94).state, I 1, I 6]) (v := .bool (inB (r.tasks[k]'hif4d94).state 1 6)) Tryz.func47 rfl (fun W s b => bZ W (r.tasks[k]'hif4d94).state 1 6), qk h21, qb 0 rfl 1, qb 1 rfl 0, qc Tryz.func217 rfl (fun W s b => aA7 W (bA hc s.below) (k : Int) aD), qk h24, qb 0 rfl 2, qb 1 rfl 2, qc (args := [I (r.tasks[k]'hif4d94).try_, I 0, I r.plan.most]) (v := .bool (inB (r.tasks[k]'hif4d94).try_ 0 r.plan.most)) Tryz.func47 rfl (fun W s b => bZ W (r.tasks[k]'hif4d94).try_ 0 r.plan.most), .o] aE aE fun f27 W28 h27_ st29 hb30 => (cT (h27_.at 31) (fun h31 => ?_) (fun h31 => ?_))
   ·have h31p := cJ (aW h31)
    refine wp_seq (aA (sg (aC (v := .bool false) rfl (aB (wr (aL Tryz.results161 rfl ?_))))))
    exact ⟨(fB (by rw [cQ (by unfold bU; omega)])), st29.bare⟩
   ·have h31p := inB_iff'.1 (bG h31)
    refine wp_skip (wp_seq (wp_seq (aA ?_)))
    rcases nem ((r.tasks[k]'hif4d94).state = 3) with h35p | h35p
    ·have h35 := decide_eq_false h35p
     refine rn st29 19 h27_ [] [(50, .bool (!decide ((r.tasks[k]'hif4d94).until_ = 0)))] [qb 0 rfl 0, qk h35, qb 0 rfl 0, qk (congrArg not h35), qb 0 rfl 3, .o] aE fun f36 h36_ => (aB (cB (h36_.at 50) (fun h37p => ?_) (fun h37p => ?_)))
     ·refine wp_seq (aA (sg (aC (v := .bool false) rfl (aB (wr (aL Tryz.results161 rfl ?_))))))
      exact ⟨(fB (by rw [cQ (by unfold bU; omega)])), st29.bare⟩
     ·refine wp_skip (wp_seq (wp_seq (aA (sg (aH iB (h36_.at 5) (sg (aU eF rfl rfl (st29.get 0 rfl) (i := 0) rfl rfl (aB (wp_block (wp_seq (aA (sg (dI rfl rfl (sg (aC (v := .bool (decide ((r.tasks[k]'hif4d94).state = 1))) rfl ?_)))))))))))))))
      refine aB (aK rfl (fun h44p => ?_) (fun h44p => ?_))
      ·refine wp_seq (aA (rn st29 4 h36_.put.put.put.put [4] [(4, .bool (decide (0 < (r.tasks[k]'hif4d94).need)))] [qb 0 rfl 1, .o] aE fun f46 h46_ => (aB ?_)))
       rcases nem (0 < (r.tasks[k]'hif4d94).need) with h47p | h47p
       ·have h47 := decide_eq_false h47p
        refine wr (aL Tryz.results161 ((h46_.at 4).trans (congrArg Value.bool h47)) ?_)
        exact ⟨(fB (by rw [cQ (by unfold bU; omega)])), st29.bare⟩
       ·have h47 := decide_eq_true h47p
        refine wr (aL Tryz.results161 ((h46_.at 4).trans (congrArg Value.bool h47)) ?_)
        exact ⟨(fB (by rw [gG (by unfold bU; omega)])), st29.bare⟩
      ·refine wp_seq (aA (sg (dI rfl rfl (sg (aC (v := .bool (decide ((r.tasks[k]'hif4d94).state = 2))) rfl (aB (aK rfl (fun h50p => ?_) (fun h50p => ?_))))))))
       ·refine wp_seq (aA ?_)
        rcases nem ((r.tasks[k]'hif4d94).need = 0) with h52p | h52p
        ·have h52 := decide_eq_false h52p
         refine lw h36_.put.put.put.put.put.put [(5, .pointer (some ⟨b12, 0, none⟩))] aE fun h54_ => (rn st29 12 h54_ [] [(4, .bool false)] [qb 0 rfl 1, qk h52] aE fun f53 h53_ => (aB (wr (aL Tryz.results161 (h53_.at 4) ?_))))
         exact ⟨(fB (by rw [cQ (by unfold bU; omega)])), st29.bare⟩
        ·have h52 := decide_eq_true h52p
         refine lw h36_.put.put.put.put.put.put [(2, .pointer (some ⟨b1, 0, none⟩)), (5, .pointer (some ⟨b12, 0, none⟩))] aE fun h56_ => (rn st29 12 h56_ [] [(4, .bool (decide ((r.tasks[k]'hif4d94).try_ < r.plan.most)))] [qb 0 rfl 1, qk h52, qb 0 rfl 2, qb 1 rfl 2, .o] aE fun f55 h55_ => (aB ?_))
         rcases nem ((r.tasks[k]'hif4d94).try_ < r.plan.most) with h57p | h57p
         ·have h57 := decide_eq_false h57p
          refine wr (aL Tryz.results161 ((h55_.at 4).trans (congrArg Value.bool h57)) ?_)
          exact ⟨(fB (by rw [cQ (by unfold bU; omega)])), st29.bare⟩
         ·have h57 := decide_eq_true h57p
          refine wr (aL Tryz.results161 ((h55_.at 4).trans (congrArg Value.bool h57)) ?_)
          exact ⟨(fB (by rw [gG (by unfold bU; omega)])), st29.bare⟩
       ·refine wp_seq (wp_seq (aA (sg (dI rfl rfl (sg (aC (v := .bool (decide ((r.tasks[k]'hif4d94).state = 3))) rfl (aB (gK rfl h35 (wp_seq (aA (sg (dI rfl rfl (sg (aC (v := .bool (decide ((r.tasks[k]'hif4d94).state = 4))) rfl (aB ?_)))))))))))))))
        refine aK rfl (fun h62p => ?_) (fun h62p => ?_)
        ·have h62 := decide_eq_true h62p
         refine wp_skip (fH rfl h62 (wp_seq (aA ?_)))
         rcases nem ((r.tasks[k]'hif4d94).need = 0) with h64p | h64p
         ·have h64 := decide_eq_false h64p
          refine lw h36_.put.put.put.put.put.put.put.put.put.put [(5, .pointer (some ⟨b12, 0, none⟩))] aE fun h66_ => (rn st29 9 h66_ [] [(4, .bool false)] [qb 0 rfl 1, qk h64] aE fun f65 h65_ => (aB (wr (aL Tryz.results161 (h65_.at 4) ?_))))
          exact ⟨(fB (by rw [cQ (by unfold bU; omega)])), st29.bare⟩
         ·have h64 := decide_eq_true h64p
          refine lw h36_.put.put.put.put.put.put.put.put.put.put [(5, .pointer (some ⟨b12, 0, none⟩))] aE fun h68_ => (rn st29 9 h68_ [] [(4, .bool (decide (1 ≤ (r.tasks[k]'hif4d94).try_)))] [qb 0 rfl 1, qk h64, qb 0 rfl 2, .o] aE fun f67 h67_ => (aB ?_))
          rcases nem (1 ≤ (r.tasks[k]'hif4d94).try_) with h69p | h69p
          ·have h69 := decide_eq_false h69p
           refine wr (aL Tryz.results161 ((h67_.at 4).trans (congrArg Value.bool h69)) ?_)
           exact ⟨(fB (by rw [cQ (by unfold bU; omega)])), st29.bare⟩
          ·have h69 := decide_eq_true h69p
           refine wr (aL Tryz.results161 ((h67_.at 4).trans (congrArg Value.bool h69)) ?_)
           exact ⟨(fB (by rw [gG (by unfold bU; omega)])), st29.bare⟩
        ·have h62 := decide_eq_false h62p
         refine aA (sg (dI rfl rfl (sg (aC (v := .bool (decide ((r.tasks[k]'hif4d94).state = 5))) rfl (aB (aK rfl (fun h72p => ?_) (fun h72p => ?_)))))))
         ·refine wp_seq (aA ?_)
          rcases nem ((r.tasks[k]'hif4d94).need = 0) with h74p | h74p
          ·have h74 := decide_eq_false h74p
           refine lw h36_.put.put.put.put.put.put.put.put.put.put.put.put [(5, .pointer (some ⟨b12, 0, none⟩))] aE fun h76_ => (rn st29 9 h76_ [] [(4, .bool false)] [qb 0 rfl 1, qk h74] aE fun f75 h75_ => (aB (wr (aL Tryz.results161 (h75_.at 4) ?_))))
           exact ⟨(fB (by rw [cQ (by unfold bU; omega)])), st29.bare⟩
          ·have h74 := decide_eq_true h74p
           refine lw h36_.put.put.put.put.put.put.put.put.put.put.put.put [(5, .pointer (some ⟨b12, 0, none⟩))] aE fun h78_ => (rn st29 9 h78_ [] [(4, .bool (decide (1 ≤ (r.tasks[k]'hif4d94).try_)))] [qb 0 rfl 1, qk h74, qb 0 rfl 2, .o] aE fun f77 h77_ => (aB ?_))
           rcases nem (1 ≤ (r.tasks[k]'hif4d94).try_) with h79p | h79p
           ·have h79 := decide_eq_false h79p
            refine wr (aL Tryz.results161 ((h77_.at 4).trans (congrArg Value.bool h79)) ?_)
            exact ⟨(fB (by rw [cQ (by unfold bU; omega)])), st29.bare⟩
           ·have h79 := decide_eq_true h79p
            refine wr (aL Tryz.results161 ((h77_.at 4).trans (congrArg Value.bool h79)) ?_)
            exact ⟨(fB (by rw [gG (by unfold bU; omega)])), st29.bare⟩
         ·refine wp_skip (wp_seq (aA (sg (aC (v := .bool true) rfl (aB (wr (aL Tryz.results161 rfl ?_)))))))
          exact ⟨(fB (by rw [gG (by unfold bU; omega)])), st29.bare⟩
    ·have h35 := decide_eq_true h35p
     rcases bd (!(inB (r.tasks[k]'hif4d94).until_ 1 1000000000)) with h82 | h82
     ·have h82p := inB_iff'.1 (bG h82)
      refine rc st29 19 h27_ [] [(50, .bool false)] [qb 0 rfl 0, qk h35, qb 0 rfl 3, qc (args := [I (r.tasks[k]'hif4d94).until_, I 1, I 1000000000]) (v := .bool (inB (r.tasks[k]'hif4d94).until_ 1 1000000000)) Tryz.func47 rfl (fun W s b => bZ W (r.tasks[k]'hif4d94).until_ 1 1000000000), qk h82, qb 0 rfl 0, qk (congrArg not h35)] aE fun f83 W84 h83_ st85 hb86 => (aB (gK (h83_.at 50) rfl (wp_skip (wp_seq (wp_seq (aA (sg (aH iB (h83_.at 5) (sg (aU eF rfl rfl (st85.get 0 rfl) (i := 0) rfl rfl (aB (wp_block (wp_seq ?_)))))))))))))
      refine aA (sg (dI rfl rfl (sg (aC (v := .bool (decide ((r.tasks[k]'hif4d94).state = 1))) rfl (aB (aK rfl (fun h91p => ?_) (fun h91p => ?_)))))))
      ·refine wp_seq (aA (rn st85 4 h83_.put.put.put.put [4] [(4, .bool (decide (0 < (r.tasks[k]'hif4d94).need)))] [qb 0 rfl 1, .o] aE fun f93 h93_ => (aB ?_)))
       rcases nem (0 < (r.tasks[k]'hif4d94).need) with h94p | h94p
       ·have h94 := decide_eq_false h94p
        refine wr (aL Tryz.results161 ((h93_.at 4).trans (congrArg Value.bool h94)) ?_)
        exact ⟨(fB (by rw [cQ (by unfold bU; omega)])), st85.bare⟩
       ·have h94 := decide_eq_true h94p
        refine wr (aL Tryz.results161 ((h93_.at 4).trans (congrArg Value.bool h94)) ?_)
        exact ⟨(fB (by rw [gG (by unfold bU; omega)])), st85.bare⟩
      ·refine wp_seq (aA (sg (dI rfl rfl (sg (aC (v := .bool (decide ((r.tasks[k]'hif4d94).state = 2))) rfl (aB (aK rfl (fun h97p => ?_) (fun h97p => ?_))))))))
       ·refine wp_seq (aA ?_)
        rcases nem ((r.tasks[k]'hif4d94).need = 0) with h99p | h99p
        ·have h99 := decide_eq_false h99p
         refine lw h83_.put.put.put.put.put.put [(5, .pointer (some ⟨b12, 0, none⟩))] aE fun h101_ => (rn st85 12 h101_ [] [(4, .bool false)] [qb 0 rfl 1, qk h99] aE fun f100 h100_ => (aB (wr (aL Tryz.results161 (h100_.at 4) ?_))))
         exact ⟨(fB (by rw [cQ (by unfold bU; omega)])), st85.bare⟩
        ·have h99 := decide_eq_true h99p
         refine lw h83_.put.put.put.put.put.put [(2, .pointer (some ⟨b1, 0, none⟩)), (5, .pointer (some ⟨b12, 0, none⟩))] aE fun h103_ => (rn st85 12 h103_ [] [(4, .bool (decide ((r.tasks[k]'hif4d94).try_ < r.plan.most)))] [qb 0 rfl 1, qk h99, qb 0 rfl 2, qb 1 rfl 2, .o] aE fun f102 h102_ => (aB ?_))
         rcases nem ((r.tasks[k]'hif4d94).try_ < r.plan.most) with h104p | h104p
         ·have h104 := decide_eq_false h104p
          refine wr (aL Tryz.results161 ((h102_.at 4).trans (congrArg Value.bool h104)) ?_)
          exact ⟨(fB (by rw [cQ (by unfold bU; omega)])), st85.bare⟩
         ·have h104 := decide_eq_true h104p
          refine wr (aL Tryz.results161 ((h102_.at 4).trans (congrArg Value.bool h104)) ?_)
          exact ⟨(fB (by rw [gG (by unfold bU; omega)])), st85.bare⟩
       ·refine wp_seq (wp_seq (aA (sg (dI rfl rfl (sg (aC (v := .bool (decide ((r.tasks[k]'hif4d94).state = 3))) rfl (aB (fH rfl h35 (wp_skip (fH rfl h35 (wp_seq (aA ?_))))))))))))
        rcases nem ((r.tasks[k]'hif4d94).need = 0) with h108p | h108p
        ·have h108 := decide_eq_false h108p
         refine lw h83_.put.put.put.put.put.put.put.put [(5, .pointer (some ⟨b12, 0, none⟩))] aE fun h110_ => (rn st85 9 h110_ [] [(4, .bool false)] [qb 0 rfl 1, qk h108] aE fun f109 h109_ => (aB (wr (aL Tryz.results161 (h109_.at 4) ?_))))
         exact ⟨(fB (by rw [cQ (by unfold bU; omega)])), st85.bare⟩
        ·have h108 := decide_eq_true h108p
         refine lw h83_.put.put.put.put.put.put.put.put [(5, .pointer (some ⟨b12, 0, none⟩))] aE fun h112_ => (rn st85 9 h112_ [] [(4, .bool (decide (1 ≤ (r.tasks[k]'hif4d94).try_)))] [qb 0 rfl 1, qk h108, qb 0 rfl 2, .o] aE fun f111 h111_ => (aB ?_))
         rcases nem (1 ≤ (r.tasks[k]'hif4d94).try_) with h113p | h113p
         ·have h113 := decide_eq_false h113p
          refine wr (aL Tryz.results161 ((h111_.at 4).trans (congrArg Value.bool h113)) ?_)
          exact ⟨(fB (by rw [cQ (by unfold bU; omega)])), st85.bare⟩
         ·have h113 := decide_eq_true h113p
          refine wr (aL Tryz.results161 ((h111_.at 4).trans (congrArg Value.bool h113)) ?_)
          exact ⟨(fB (by rw [gG (by unfold bU; omega)])), st85.bare⟩
     ·have h82p := cJ (aW h82)
      refine rc st29 19 h27_ [] [(50, .bool true)] [qb 0 rfl 0, qk h35, qb 0 rfl 3, qc (args := [I (r.tasks[k]'hif4d94).until_, I 1, I 1000000000]) (v := .bool (inB (r.tasks[k]'hif4d94).until_ 1 1000000000)) Tryz.func47 rfl (fun W s b => bZ W (r.tasks[k]'hif4d94).until_ 1 1000000000), qk h82] aE fun f114 W115 h114_ st116 hb117 => (aB (fH (h114_.at 50) rfl (wp_seq (aA (sg (aC (v := .bool false) rfl (aB (wr (aL Tryz.results161 rfl ?_)))))))))
      exact ⟨(fB (by rw [cQ (by unfold bU; omega)])), st116.bare⟩
  ·have h24 := gR h24p
   have hk121 := hc10
   obtain ⟨he121, rfl, hok121⟩ := hk121
   have he121 : _ = [I (r.tasks[k]'hif4d94).state, I (r.tasks[k]'hif4d94).need, I (r.tasks[k]'hif4d94).try_, I (r.tasks[k]'hif4d94).until_] := he121
   subst he121
   refine rd st18 h11_.put [] [(31, .bool true)] [qb 0 rfl 0, qc (args := [I (r.tasks[k]'hif4d94).state, I 1, I 6]) (v := .bool (inB (r.tasks[k]'hif4d94).state 1 6)) Tryz.func47 rfl (fun W s b => bZ W (r.tasks[k]'hif4d94).state 1 6), qk h21, qb 0 rfl 1, qb 1 rfl 0, qc Tryz.func217 rfl (fun W s b => aA7 W (bA hc s.below) (k : Int) aD), qk h24] aE aE fun f122 W123 h122_ st124 hb125 => (fH (h122_.at 31) rfl (wp_seq (aA (sg (aC (v := .bool false) rfl (aB (wr (aL Tryz.results161 rfl ?_))))))))
   exact ⟨(fB (by rw [cQ (by unfold bU; omega)])), st124.bare⟩
 ·have h21p := cJ (aW h21)
  have hk129 := hc10
  obtain ⟨he129, rfl, hok129⟩ := hk129
  have he129 : _ = [I (r.tasks[k]'hif4d94).state, I (r.tasks[k]'hif4d94).need, I (r.tasks[k]'hif4d94).try_, I (r.tasks[k]'hif4d94).until_] := he129
  subst he129
  refine rd st18 h11_.put [] [(31, .bool true)] [qb 0 rfl 0, qc (args := [I (r.tasks[k]'hif4d94).state, I 1, I 6]) (v := .bool (inB (r.tasks[k]'hif4d94).state 1 6)) Tryz.func47 rfl (fun W s b => bZ W (r.tasks[k]'hif4d94).state 1 6), qk h21] aE aE fun f130 W131 h130_ st132 hb133 => (fH (h130_.at 31) rfl (wp_seq (aA (sg (aC (v := .bool false) rfl (aB (wr (aL Tryz.results161 rfl ?_))))))))
  exact ⟨(fB (by rw [cQ (by unfold bU; omega)])), st132.bare⟩
theorem zE (w : World) {r : Run} {cs : List Value} {fp : List Nat} (hc : Shape.C w cs r fp) :
  Calls Tryz.prog 97 #[.agg cs.toArray] w fun e w' => e = .returned (.bool (dK r)) ∧ St w w' [] := by
 have hcap : r.tasks.length ≤ 9223372036854775807 := by have h0 := hc; obtain ⟨v1, v2, f1, f2, h0, hok, h1, h2, hfp⟩ := h0; exact h2.len_le
 refine cR Tryz.func97 rfl Tryz.ntmps97 aX (wp_seq (aA (sg (aJ (cs := cs) rfl (St.start w) ?_)))); intro b1 W2 hb3 st4
 refine sg (aC (v := .bool false) rfl (aB (wp_seq (wp_seq (aA ?_)))))
 have hk9 := hc
 obtain ⟨v9_0, v9_1, g9_0, g9_1, rfl, hok9, h9_0, h9_1, rfl⟩ := hk9
 rcases bd (!(inB r.id 1 9999)) with h10 | h10
 ·have h10p := inB_iff'.1 (bG h10)
  rcases Decidable.em ((cX r.plan) = 0) with h11p | h11p
  ·have h11 := gS h11p
   refine rc st4 19 Ag.nil.put.put.put [] [(26, .bool (!decide ((r.tasks.length : Int) = r.plan.tasks)))] [qb 0 rfl 0, qc Tryz.func47 rfl (fun W s b => bZ W r.id 1 9999), qk h10, qb 0 rfl 1, qc Tryz.func160 rfl (fun W s b => mV W (show Shape.C _ [I r.plan.prio, I r.plan.most, I r.plan.wait, I r.plan.tasks, v9_0] r.plan _ from ⟨_, _, rfl, eS, (h9_0.below s.below), rfl⟩)), qk h11, qb 0 rfl 7, ql h9_1, qb 0 rfl 4, .o] aE fun f12 W13 h12_ st14 hb15 => (aB (cB (h12_.at 26) (fun h16p => ?_) (fun h16p => ?_)))
   ·refine wp_seq (aA (sg (aC (v := .bool false) rfl (aB (wr (aL Tryz.results97 rfl ?_))))))
    exact ⟨(fB (by unfold dK; rw [cQ (by rintro ⟨hz1, hz2, hz3, hz4, hz5, hz6⟩; omega)])), st14.bare⟩
   ·refine wp_skip (wp_seq (wp_seq (aA ?_)))
    have hMb := pM (lU (by omega : cX r.plan = 0)).1
    refine rn st14 4 h12_ [] [(29, I (r.tasks.length : Int)), (30, I 0)] [qb 0 rfl 7, ql h9_1] aE fun f20 h20_ => (aB (wp_block (aY (fun (m : Nat) (f : Nat → Value) (W : World) => ∃ (k : Nat), k ≤ r.tasks.length ∧ (∀ j, j < k → lA r j) ∧ m = r.tasks.length - k ∧ Ag [(1, .pointer (some ⟨b1, 0, none⟩)), (29, I (r.tasks.length : Int)), (30, I (k : Int))] f ∧ St w W ([Res.bx b1 [I r.id, I r.plan.prio, I r.plan.most, I r.plan.wait, I r.plan.tasks, v9_0, I r.state, v9_1] 123])) (r.tasks.length - 0) ?_ ?_)))
    ·exact ⟨0, aD, (fun j hj => absurd hj (Nat.not_lt_zero j)), rfl, (h20_.to aE), st14⟩
    intro m21 f22 W23 hJ24
    obtain ⟨k, hk, hT, rfl, hA26, st25⟩ := hJ24
    refine wp_seq (aA (sg (bS (hA26.at 30) (hA26.at 29) (aB (wp_seq (aK rfl (fun h29p => ?_) (fun h29p => ?_)))))))
    ·refine wp_skip (wp_seq (wp_block (wp_seq (aA (sg (aF (v := I (k : Int)) (hA26.at 30) (sg (aC (v := I (k : Int)) rfl (aB (wp_seq (aA (rc st25 4 hA26.put.put.put [] [(36, .bool (!(pB (bU r (iN r (k : Int)) (r.tasks[k]'(by omega))))))] [qb 0 rfl 0, qc (args := [.agg #[I r.id, I r.plan.prio, I r.plan.most, I r.plan.wait, I r.plan.tasks, v9_0, I r.state, v9_1], I (k : Int)]) (v := .bool (pB (bU r (iN r (k : Int)) (r.tasks[k]'(by omega))))) Tryz.func161 rfl (fun W s b => TaskOkI W (bA hc s.below) (k := k) aD aD), .o] aE fun f33 W34 h33_ st35 hb36 => (aB ?_)))))))))))))
     refine cT (h33_.at 36) (fun h37 => ?_) (fun h37 => ?_)
     ·refine wp_seq (aA (sg (aC (v := .bool false) rfl (aB (wr (aL Tryz.results97 rfl ?_))))))
      exact ⟨(fB (by unfold dK; rw [cQ (fun hz => yY (aW h37) (hz.2.2.2.1 k aD aD))])), st35.bare⟩
     ·refine wp_skip (aA (sg (bY (h33_.at 30) rfl dX (sg (aF (v := I ((k : Int) + 1)) rfl (aB ?_))))))
      exact ⟨_, r.tasks.length - (k + 1), aD, rfl, k + 1, aD, (fun j hj => by rcases Nat.lt_succ_iff_lt_or_eq.1 hj with h1 | rfl; exact hT j h1; exact fun _ => pB_iff.1 ((bG h37))), rfl, (h33_.put.put.to aE), st35⟩
    ·refine wp_exit (wp_seq ?_)
     have hTk : ∀ j, j < r.tasks.length → lA r j := by rw [show k = r.tasks.length by omega] at hT; exact hT
     have hc4 := jS r.tasks 4
     have hc5 := jS r.tasks 5
     have hc6 := jS r.tasks 6
     have hsum := aA3 (states_of hTk)
     have hso := oR r.tasks
     have hn1 := dV r.tasks 1
     have hn2 := dV r.tasks 2
     have hn3 := dV r.tasks 3
     have hn4 := dV r.tasks 4
     have hn5 := dV r.tasks 5
     have hn6 := dV r.tasks 6
     refine oZ [Pl.is (.agg #[I r.id, I r.plan.prio, I r.plan.most, I r.plan.wait, I r.plan.tasks, v9_0, I r.state, v9_1]), Pl.ssl (α := Int) (bC r.tasks 4), Pl.is (I ((bC r.tasks 4).length : Int)), Pl.is (.agg #[I r.id, I r.plan.prio, I r.plan.most, I r.plan.wait, I r.plan.tasks, v9_0, I r.state, v9_1]), Pl.ssl (α := Int) (bC r.tasks 5), Pl.is (I ((bC r.tasks 5).length : Int)), Pl.is (.agg #[I r.id, I r.plan.prio, I r.plan.most, I r.plan.wait, I r.plan.tasks, v9_0, I r.state, v9_1]), Pl.ssl (α := Int) (bC r.tasks 6), Pl.is (I ((bC r.tasks 6).length : Int)), Pl.is (I ((bC r.tasks 4).length : Int)), Pl.is (I ((bC r.tasks 5).length : Int)), Pl.is (I ((bC r.tasks 6).length : Int))] mix (by rfl) st25 ⟨(fun f W hst hbl hd hf => aV (cs := [I r.id, I r.plan.prio, I r.plan.most, I r.plan.wait, I r.plan.tasks, v9_0, I r.state, v9_1]) eC rfl ((hf 1 rfl).trans (hA26.at 1)) (hst.get 0 rfl) rfl rfl brq), (fun f W hst hbl hd hf => bJ Tryz.func162 rfl (hd 0 38 rfl rfl) rfl ((mC W (bA hc hst.below) 4 aD).mono (by rintro e W2 ⟨v, fp, rfl, hk⟩; exact ⟨_, rfl, hk.below, fp, aI (hk.get 0 rfl)⟩))), (fun f W hst hbl hd hf => by obtain ⟨fp44, h44⟩ := hd 1 39 rfl rfl; exact fK eP rfl h44 brq), (fun f W hst hbl hd hf => aV (cs := [I r.id, I r.plan.prio, I r.plan.most, I r.plan.wait, I r.plan.tasks, v9_0, I r.state, v9_1]) eC rfl ((hf 1 rfl).trans (hA26.at 1)) (hst.get 0 rfl) rfl rfl brq), (fun f W hst hbl hd hf => bJ Tryz.func162 rfl (hd 3 41 rfl rfl) rfl ((mC W (bA hc hst.below) 5 aD).mono (by rintro e W2 ⟨v, fp, rfl, hk⟩; exact ⟨_, rfl, hk.below, fp, aI (hk.get 0 rfl)⟩))), (fun f W hst hbl hd hf => by obtain ⟨fp47, h47⟩ := hd 4 42 rfl rfl; exact fK eP rfl h47 brq), (fun f W hst hbl hd hf => aV (cs := [I r.id, I r.plan.prio, I r.plan.most, I r.plan.wait, I r.plan.tasks, v9_0, I r.state, v9_1]) eC rfl ((hf 1 rfl).trans (hA26.at 1)) (hst.get 0 rfl) rfl rfl brq), (fun f W hst hbl hd hf => bJ Tryz.func162 rfl (hd 6 44 rfl rfl) rfl ((mC W (bA hc hst.below) 6 aD).mono (by rintro e W2 ⟨v, fp, rfl, hk⟩; exact ⟨_, rfl, hk.below, fp, aI (hk.get 0 rfl)⟩))), (fun f W hst hbl hd hf => by obtain ⟨fp50, h50⟩ := hd 7 45 rfl rfl; exact fK eP rfl h50 brq), (fun f W hst hbl hd hf => aC (v := I ((bC r.tasks 4).length : Int)) (hd 2 40 rfl rfl) brq), (fun f W hst hbl hd hf => aC (v := I ((bC r.tasks 5).length : Int)) (hd 5 43 rfl rfl) brq), (fun f W hst hbl hd hf => aC (v := I ((bC r.tasks 6).length : Int)) (hd 8 46 rfl rfl) brq), trivial⟩ ?_
     intro f51 W52 st53 hb54 hv55 hf56
     refine wp_seq (aA (rn st53 10 (Ag.cons (show f51 1 = .pointer (some ⟨b1, 0, none⟩) from ((hf56 1 rfl).trans (hA26.at 1))) (Ag.cons (show f51 4 = I ((bC r.tasks 4).length : Int) from (hv55 9 4 aX rfl)) (Ag.cons (show f51 5 = I ((bC r.tasks 5).length : Int) from (hv55 10 5 aX rfl)) (Ag.cons (show f51 6 = I ((bC r.tasks 6).length : Int) from (hv55 11 6 aX rfl)) Ag.nil)))) [] [(7, .bool (decide (((((bC r.tasks 4).length : Int) + ((bC r.tasks 5).length : Int)) + ((bC r.tasks 6).length : Int)) = (r.tasks.length : Int))))] [qad ((bC r.tasks 4).length : Int) ((bC r.tasks 5).length : Int), qad (((bC r.tasks 4).length : Int) + ((bC r.tasks 5).length : Int)) ((bC r.tasks 6).length : Int), qb 0 rfl 7, ql h9_1, .o] aE fun f59 h59_ => (aB (wp_seq (wp_block (wp_seq (aA (rn st53 6 h59_ [] [(56, .bool (decide (((bC r.tasks 4).length : Int) = (r.tasks.length : Int))))] [qb 0 rfl 7, ql h9_1, .o] aE fun f61 h61_ => (aB (aK (h61_.at 56) (fun h62p => ?_) (fun h62p => ?_)))))))))))
     ·refine wp_seq (aA (rn st53 4 h61_ [] [(2, .bool (decide (r.state = 2)))] [qb 0 rfl 6, .o] aE fun f64 h64_ => (aB ?_)))
      rcases nem (r.state = 2) with h65p | h65p
      ·have h65 := decide_eq_false h65p
       refine wr (aL Tryz.results97 ((h64_.at 2).trans (congrArg Value.bool h65)) ?_)
       exact ⟨(fB (by unfold dK; rw [cQ (by rintro ⟨hz1, hz2, hz3, hz4, hz5, hz6⟩; omega)])), st53.bare⟩
      ·have h65 := decide_eq_true h65p
       refine wr (aL Tryz.results97 ((h64_.at 2).trans (congrArg Value.bool h65)) ?_)
       exact ⟨(fB (by unfold dK; rw [gG ⟨by omega, by omega, by omega, hTk, by omega, by omega⟩])), st53.bare⟩
     ·refine wp_seq (aA ?_)
      rcases nem (((bC r.tasks 5).length : Int) = 1) with h67p | h67p
      ·have h67 := decide_eq_false h67p
       refine rn st53 6 h61_ [] [(65, .bool false)] [qk h67] aE fun f68 h68_ => (aB (gK (h68_.at 65) rfl (wp_seq (aA ?_))))
       rcases nem (((bC r.tasks 5).length : Int) = 0) with h70p | h70p
       ·have h70 := decide_eq_false h70p
        refine rn st53 10 h68_ [] [(74, .bool false)] [qk h70] aE fun f71 h71_ => (aB (gK (h71_.at 74) rfl (wp_skip (wp_seq (aA ?_)))))
        rcases nem (r.state = 1) with h73p | h73p
        ·have h73 := decide_eq_false h73p
         refine rn st53 12 h71_ [] [(2, .bool false)] [qb 0 rfl 6, qk h73] aE fun f74 h74_ => (aB (wr (aL Tryz.results97 (h74_.at 2) ?_)))
         exact ⟨(fB (by unfold dK; rw [cQ (by rintro ⟨hz1, hz2, hz3, hz4, hz5, hz6⟩; omega)])), st53.bare⟩
        ·have h73 := decide_eq_true h73p
         refine rn st53 12 h71_ [] [(2, .bool false)] [qb 0 rfl 6, qk h73, qk h70] aE fun f75 h75_ => (aB (wr (aL Tryz.results97 (h75_.at 2) ?_)))
         exact ⟨(fB (by unfold dK; rw [cQ (by rintro ⟨hz1, hz2, hz3, hz4, hz5, hz6⟩; omega)])), st53.bare⟩
       ·have h70 := decide_eq_true h70p
        rcases nem (0 < ((bC r.tasks 6).length : Int)) with h76p | h76p
        ·have h76 := decide_eq_false h76p
         refine rn st53 10 h68_ [] [(74, .bool false)] [qk h70, qk h76] aE fun f77 h77_ => (aB (gK (h77_.at 74) rfl (wp_skip (wp_seq (aA ?_)))))
         rcases nem (r.state = 1) with h79p | h79p
         ·have h79 := decide_eq_false h79p
          refine rn st53 12 h77_ [] [(2, .bool false)] [qb 0 rfl 6, qk h79] aE fun f80 h80_ => (aB (wr (aL Tryz.results97 (h80_.at 2) ?_)))
          exact ⟨(fB (by unfold dK; rw [cQ (by rintro ⟨hz1, hz2, hz3, hz4, hz5, hz6⟩; omega)])), st53.bare⟩
         ·have h79 := decide_eq_true h79p
          refine rn st53 12 h77_ [] [(2, .bool (decide (((bC r.tasks 6).length : Int) = 0)))] [qb 0 rfl 6, qk h79, qk h70, .o] aE fun f81 h81_ => (aB ?_)
          rcases nem (((bC r.tasks 6).length : Int) = 0) with h82p | h82p
          ·have h82 := decide_eq_false h82p
           refine wr (aL Tryz.results97 ((h81_.at 2).trans (congrArg Value.bool h82)) ?_)
           exact ⟨(fB (by unfold dK; rw [cQ (by rintro ⟨hz1, hz2, hz3, hz4, hz5, hz6⟩; omega)])), st53.bare⟩
          ·have h82 := decide_eq_true h82p
           refine wr (aL Tryz.results97 ((h81_.at 2).trans (congrArg Value.bool h82)) ?_)
           exact ⟨(fB (by unfold dK; rw [gG ⟨by omega, by omega, by omega, hTk, by omega, by omega⟩])), st53.bare⟩
        ·have h76 := decide_eq_true h76p
         refine rn st53 10 h68_ [] [(74, .bool (decide (((((bC r.tasks 4).length : Int) + ((bC r.tasks 5).length : Int)) + ((bC r.tasks 6).length : Int)) = (r.tasks.length : Int))))] [qk h70, qk h76] aE fun f83 h83_ => (aB (aK (h83_.at 74) (fun h84p => ?_) (fun h84p => ?_)))
         ·refine wp_seq (aA (rn st53 4 h83_ [] [(2, .bool (decide (r.state = 4)))] [qb 0 rfl 6, .o] aE fun f86 h86_ => (aB ?_)))
          rcases nem (r.state = 4) with h87p | h87p
          ·have h87 := decide_eq_false h87p
           refine wr (aL Tryz.results97 ((h86_.at 2).trans (congrArg Value.bool h87)) ?_)
           exact ⟨(fB (by unfold dK; rw [cQ (by rintro ⟨hz1, hz2, hz3, hz4, hz5, hz6⟩; omega)])), st53.bare⟩
          ·have h87 := decide_eq_true h87p
           refine wr (aL Tryz.results97 ((h86_.at 2).trans (congrArg Value.bool h87)) ?_)
           exact ⟨(fB (by unfold dK; rw [gG ⟨by omega, by omega, by omega, hTk, by omega, by omega⟩])), st53.bare⟩
         ·refine wp_skip (wp_seq (aA ?_))
          rcases nem (r.state = 1) with h89p | h89p
          ·have h89 := decide_eq_false h89p
           refine rn st53 12 h83_ [] [(2, .bool false)] [qb 0 rfl 6, qk h89] aE fun f90 h90_ => (aB (wr (aL Tryz.results97 (h90_.at 2) ?_)))
           exact ⟨(fB (by unfold dK; rw [cQ (by rintro ⟨hz1, hz2, hz3, hz4, hz5, hz6⟩; omega)])), st53.bare⟩
          ·have h89 := decide_eq_true h89p
           refine rn st53 12 h83_ [] [(2, .bool (decide (((bC r.tasks 6).length : Int) = 0)))] [qb 0 rfl 6, qk h89, qk h70, .o] aE fun f91 h91_ => (aB ?_)
           rcases nem (((bC r.tasks 6).length : Int) = 0) with h92p | h92p
           ·have h92 := decide_eq_false h92p
            refine wr (aL Tryz.results97 ((h91_.at 2).trans (congrArg Value.bool h92)) ?_)
            exact ⟨(fB (by unfold dK; rw [cQ (by rintro ⟨hz1, hz2, hz3, hz4, hz5, hz6⟩; omega)])), st53.bare⟩
           ·have h92 := decide_eq_true h92p
            refine wr (aL Tryz.results97 ((h91_.at 2).trans (congrArg Value.bool h92)) ?_)
            exact ⟨(fB (by unfold dK; rw [gG ⟨by omega, by omega, by omega, hTk, by omega, by omega⟩])), st53.bare⟩
      ·have h67 := decide_eq_true h67p
       refine rn st53 6 h61_ [] [(65, .bool (decide (((((bC r.tasks 4).length : Int) + ((bC r.tasks 5).length : Int)) + ((bC r.tasks 6).length : Int)) = (r.tasks.length : Int))))] [qk h67] aE fun f93 h93_ => (aB (aK (h93_.at 65) (fun h94p => ?_) (fun h94p => ?_)))
       ·have h94 := decide_eq_true h94p
        refine wp_seq (aA (rn st53 4 h93_ [] [(2, .bool (decide (r.state = 3)))] [qb 0 rfl 6, .o] aE fun f96 h96_ => (aB ?_)))
        rcases nem (r.state = 3) with h97p | h97p
        ·have h97 := decide_eq_false h97p
         refine wr (aL Tryz.results97 ((h96_.at 2).trans (congrArg Value.bool h97)) ?_)
         exact ⟨(fB (by unfold dK; rw [cQ (by rintro ⟨hz1, hz2, hz3, hz4, hz5, hz6⟩; omega)])), st53.bare⟩
        ·have h97 := decide_eq_true h97p
         refine wr (aL Tryz.results97 ((h96_.at 2).trans (congrArg Value.bool h97)) ?_)
         exact ⟨(fB (by unfold dK; rw [gG ⟨by omega, by omega, by omega, hTk, by omega, by omega⟩])), st53.bare⟩
       ·have h94 := decide_eq_false h94p
        refine wp_seq (aA ?_)
        rcases nem (((bC r.tasks 5).length : Int) = 0) with h99p | h99p
        ·have h99 := decide_eq_false h99p
         refine rn st53 10 h93_ [] [(74, .bool false)] [qk h99] aE fun f100 h100_ => (aB (gK (h100_.at 74) rfl (wp_skip (wp_seq (aA ?_)))))
         rcases nem (r.state = 1) with h102p | h102p
         ·have h102 := decide_eq_false h102p
          refine rn st53 12 h100_ [] [(2, .bool false)] [qb 0 rfl 6, qk h102] aE fun f103 h103_ => (aB (wr (aL Tryz.results97 (h103_.at 2) ?_)))
          exact ⟨(fB (by unfold dK; rw [cQ (by rintro ⟨hz1, hz2, hz3, hz4, hz5, hz6⟩; omega)])), st53.bare⟩
         ·have h102 := decide_eq_true h102p
          refine rn st53 12 h100_ [] [(2, .bool false)] [qb 0 rfl 6, qk h102, qk h99] aE fun f104 h104_ => (aB (wr (aL Tryz.results97 (h104_.at 2) ?_)))
          exact ⟨(fB (by unfold dK; rw [cQ (by rintro ⟨hz1, hz2, hz3, hz4, hz5, hz6⟩; omega)])), st53.bare⟩
        ·have h99 := decide_eq_true h99p
         rcases nem (0 < ((bC r.tasks 6).length : Int)) with h105p | h105p
         ·have h105 := decide_eq_false h105p
          refine rn st53 10 h93_ [] [(74, .bool false)] [qk h99, qk h105] aE fun f106 h106_ => (aB (gK (h106_.at 74) rfl (wp_skip (wp_seq (aA ?_)))))
          rcases nem (r.state = 1) with h108p | h108p
          ·have h108 := decide_eq_false h108p
           refine rn st53 12 h106_ [] [(2, .bool false)] [qb 0 rfl 6, qk h108] aE fun f109 h109_ => (aB (wr (aL Tryz.results97 (h109_.at 2) ?_)))
           exact ⟨(fB (by unfold dK; rw [cQ (by rintro ⟨hz1, hz2, hz3, hz4, hz5, hz6⟩; omega)])), st53.bare⟩
          ·have h108 := decide_eq_true h108p
           refine rn st53 12 h106_ [] [(2, .bool (decide (((bC r.tasks 6).length : Int) = 0)))] [qb 0 rfl 6, qk h108, qk h99, .o] aE fun f110 h110_ => (aB ?_)
           rcases nem (((bC r.tasks 6).length : Int) = 0) with h111p | h111p
           ·have h111 := decide_eq_false h111p
            refine wr (aL Tryz.results97 ((h110_.at 2).trans (congrArg Value.bool h111)) ?_)
            exact ⟨(fB (by unfold dK; rw [cQ (by rintro ⟨hz1, hz2, hz3, hz4, hz5, hz6⟩; omega)])), st53.bare⟩
           ·have h111 := decide_eq_true h111p
            refine wr (aL Tryz.results97 ((h110_.at 2).trans (congrArg Value.bool h111)) ?_)
            exact ⟨(fB (by unfold dK; rw [gG ⟨by omega, by omega, by omega, hTk, by omega, by omega⟩])), st53.bare⟩
         ·have h105 := decide_eq_true h105p
          refine rn st53 10 (h93_.kn 7 h94) [] [(74, .bool false)] [qk h99, qk h105] aE fun f112 h112_ => (aB (gK (h112_.at 74) rfl (wp_skip (wp_seq (aA ?_)))))
          rcases nem (r.state = 1) with h114p | h114p
          ·have h114 := decide_eq_false h114p
           refine rn st53 12 h112_ [] [(2, .bool false)] [qb 0 rfl 6, qk h114] aE fun f115 h115_ => (aB (wr (aL Tryz.results97 (h115_.at 2) ?_)))
           exact ⟨(fB (by unfold dK; rw [cQ (by rintro ⟨hz1, hz2, hz3, hz4, hz5, hz6⟩; omega)])), st53.bare⟩
          ·have h114 := decide_eq_true h114p
           refine rn st53 12 h112_ [] [(2, .bool (decide (((bC r.tasks 6).length : Int) = 0)))] [qb 0 rfl 6, qk h114, qk h99, .o] aE fun f116 h116_ => (aB ?_)
           rcases nem (((bC r.tasks 6).length : Int) = 0) with h117p | h117p
           ·have h117 := decide_eq_false h117p
            refine wr (aL Tryz.results97 ((h116_.at 2).trans (congrArg Value.bool h117)) ?_)
            exact ⟨(fB (by unfold dK; rw [cQ (by rintro ⟨hz1, hz2, hz3, hz4, hz5, hz6⟩; omega)])), st53.bare⟩
           ·have h117 := decide_eq_true h117p
            refine wr (aL Tryz.results97 ((h116_.at 2).trans (congrArg Value.bool h117)) ?_)
            exact ⟨(fB (by unfold dK; rw [gG ⟨by omega, by omega, by omega, hTk, by omega, by omega⟩])), st53.bare⟩
  ·have h11 := gR h11p
   refine rc st4 19 Ag.nil.put.put.put [] [(26, .bool true)] [qb 0 rfl 0, qc Tryz.func47 rfl (fun W s b => bZ W r.id 1 9999), qk h10, qb 0 rfl 1, qc Tryz.func160 rfl (fun W s b => mV W (show Shape.C _ [I r.plan.prio, I r.plan.most, I r.plan.wait, I r.plan.tasks, v9_0] r.plan _ from ⟨_, _, rfl, eS, (h9_0.below s.below), rfl⟩)), qk h11] aE fun f118 W119 h118_ st120 hb121 => (aB (fH (h118_.at 26) rfl (wp_seq (aA (sg (aC (v := .bool false) rfl (aB (wr (aL Tryz.results97 rfl ?_)))))))))
   exact ⟨(fB (by unfold dK; rw [cQ (by rintro ⟨hz1, hz2, hz3, hz4, hz5, hz6⟩; omega)])), st120.bare⟩
 ·have h10p := cJ (aW h10)
  refine rc st4 19 Ag.nil.put.put.put [] [(26, .bool true)] [qb 0 rfl 0, qc Tryz.func47 rfl (fun W s b => bZ W r.id 1 9999), qk h10] aE fun f124 W125 h124_ st126 hb127 => (aB (fH (h124_.at 26) rfl (wp_seq (aA (sg (aC (v := .bool false) rfl (aB (wr (aL Tryz.results97 rfl ?_)))))))))
  exact ⟨(fB (by unfold dK; rw [cQ (by rintro ⟨hz1, hz2, hz3, hz4, hz5, hz6⟩; omega)])), st126.bare⟩
theorem TaskOkS (w : World) {r : Run} {cs : List Value} {fp : List Nat} (hc : Shape.C w cs r fp) {k : Nat} (hk : k < r.tasks.length) (hlen : (r.tasks.length : Int) = r.plan.tasks) (hP : cX r.plan = 0) (hs : 1 ≤ (r.tasks[k]'hk).state ∧ (r.tasks[k]'hk).state ≤ 6) :
  Calls Tryz.prog 156 #[.agg cs.toArray, I (k : Int)] w fun e w' => e = .returned (.bool (pB (bU r (iN r (k : Int)) (r.tasks[k]'hk)))) ∧ St w w' [] := by
 have hcap : r.tasks.length ≤ 9223372036854775807 := by have h0 := hc; obtain ⟨v1, v2, f1, f2, h0, hok, h1, h2, hfp⟩ := h0; exact h2.len_le
 refine bR Tryz.func156 rfl Tryz.ntmps156 aX (wp_seq (aA (sg (aJ (cs := cs) rfl (St.start w) ?_)))); intro b1 W2 hb3 st4
 refine sg (aC (v := .bool false) rfl (aB (wp_seq (aA ?_))))
 have hk9 := hc
 obtain ⟨v9_0, v9_1, g9_0, g9_1, rfl, hok9, h9_0, h9_1, rfl⟩ := hk9
 have hif4d94 : k < r.tasks.length := aD
 have hq_ := idx h9_1 (i := k) hif4d94
 obtain ⟨b10, o10, cs10, f10, hp10, hr10, hc10, hm10⟩ := hq_
 refine rn st4 5 Ag.nil.put.put.put.put [] [(13, .agg cs10.toArray)] [qb 0 rfl 7, qx hp10, qrw hr10 (Shape.len hc10)] aE fun f11 h11_ => (sg (aR kA st4 ?_)); intro b12 W13 hb14 st15
 refine sgn (aO (cs := cs10) kG hc10 rfl (h11_.at 13) st15 rfl ?_); intro W17 st18
 refine aB (wp_seq (aA (sg (aC (v := I 0) rfl (aB (wp_seq (aA (rn st18 3 h11_.put.put [] [(15, .agg #[I r.plan.prio, I r.plan.most, I r.plan.wait, I r.plan.tasks, v9_0]), (16, I (k : Int))] [qb 1 rfl 1] aE fun f22 h22_ => ?_))))))))
 have hq_ := lU hP
 obtain ⟨hM, hE, _, _⟩ := hq_
 have hMb := pM hM
 have hbeq : cH r.plan (k : Int) = (cO (cW r.plan.edges (k : Int))) := by unfold cH; rw [if_pos hP]
 have hbl := kV r.plan (k : Int)
 rw [hbeq] at hbl
 refine sg (bJ Tryz.func214 rfl (h22_.at 15) (h22_.at 16) ((BeforeE W17 (show Shape.C _ [I r.plan.prio, I r.plan.most, I r.plan.wait, I r.plan.tasks, v9_0] r.plan _ from ⟨_, _, rfl, eS, (h9_0.below st18.below), rfl⟩) (k : Int) aD aD hE).mono ?_)); rintro _ W25 ⟨v23, fp23, rfl, hk26⟩; refine ⟨_, rfl, ?_⟩
 have st27 := St.call st18 hk26
 refine sg (aC (v := v23) rfl (aB (wp_seq (wp_seq (aA (sg (aC (v := I 0) rfl (aB (wp_block (aY (fun (m : Nat) (f : Nat → Value) (W : World) => ∃ (i : Nat), i ≤ (cO (cW r.plan.edges (k : Int))).length ∧ m = (cO (cW r.plan.edges (k : Int))).length - i ∧ Ag [(2, .pointer (some ⟨b1, 0, none⟩)), (5, .pointer (some ⟨b12, 0, none⟩)), (6, I (dU r ((cO (cW r.plan.edges (k : Int))).take i))), (7, v23), (8, I (i : Int))] f ∧ St w W ([Res.own (α := List Int) v23 (cO (cW r.plan.edges (k : Int))) fp23, Res.bx b12 cs10 140, Res.bx b1 [I r.id, I r.plan.prio, I r.plan.most, I r.plan.wait, I r.plan.tasks, v9_0, I r.state, v9_1] 123])) ((cO (cW r.plan.edges (k : Int))).length - 0) ?_ ?_))))))))))
 ·exact ⟨0, aD, rfl, (h22_.put.put.put.to aE), st27⟩
 intro m33 f34 W35 hJ36
 obtain ⟨i, hi, rfl, hA38, st37⟩ := hJ36
 have hnr := pF r ((cO (cW r.plan.edges (k : Int))).take i)
 have htl := List.length_take_le i (cO (cW r.plan.edges (k : Int)))
 refine wp_seq (wp_seq (aA (rn st37 4 hA38 [] [(21, .bool (decide ((i : Int) < ((cO (cW r.plan.edges (k : Int))).length : Int))))] [ql (aI (st37.get 0 rfl)), .o] aE fun f40 h40_ => (aB (aK (h40_.at 21) (fun h41p => ?_) (fun h41p => ?_))))))
 ·refine wp_skip (wp_seq (wp_block (wp_seq ?_)))
  have hbr := uT r.plan (k : Int)
  rw [hbeq] at hbr
  have hbr := hbr _ (List.getElem_mem (l := (cO (cW r.plan.edges (k : Int)))) (n := i) aD)
  have hi26b77 : i < (cO (cW r.plan.edges (k : Int))).length := aD
  have hq_ := idx (aI (st37.get 0 rfl)) (i := i) hi26b77
  obtain ⟨b43, o43, cs43, f43, hp43, hr43, hc43, hm43⟩ := hq_
  have hk43 := hc43
  obtain ⟨rfl, rfl, hok43⟩ := hk43
  have hib59be : (((cO (cW r.plan.edges (k : Int)))[i]'hi26b77)).toNat < r.tasks.length := aD
  have hq_ := idx h9_1 (i := (((cO (cW r.plan.edges (k : Int)))[i]'hi26b77)).toNat) hib59be
  obtain ⟨b44, o44, cs44, f44, hp44, hr44, hc44, hm44⟩ := hq_
  have hk45 := hc44
  obtain ⟨he45, rfl, hok45⟩ := hk45
  have he45 : _ = [I (r.tasks[(((cO (cW r.plan.edges (k : Int)))[i]'hi26b77)).toNat]'hib59be).state, I (r.tasks[(((cO (cW r.plan.edges (k : Int)))[i]'hi26b77)).toNat]'hib59be).need, I (r.tasks[(((cO (cW r.plan.edges (k : Int)))[i]'hi26b77)).toNat]'hib59be).try_, I (r.tasks[(((cO (cW r.plan.edges (k : Int)))[i]'hi26b77)).toNat]'hib59be).until_] := he45
  subst he45
  refine rd st37 h40_ [] [(33, .bool (!decide ((r.tasks[(((cO (cW r.plan.edges (k : Int)))[i]'hi26b77)).toNat]'hib59be).state = 4)))] [qb 2 rfl 7, qx hp43, qn hr43 0, qxe hp44 (e := ((cO (cW r.plan.edges (k : Int)))[i]'hi26b77)) aD, qr hr44 0, .o] aE aE fun f46 W47 h46_ st48 hb49 => (cB (h46_.at 33) (fun h50p => ?_) (fun h50p => ?_))
  ·refine aA (rn st48 3 h46_ [6] [(6, I ((dU r ((cO (cW r.plan.edges (k : Int))).take i)) + 1))] [qad (dU r ((cO (cW r.plan.edges (k : Int))).take i)) 1] aE fun f52 h52_ => (aB (aA (rn st48 3 h52_ [8] [(8, I ((i : Int) + 1))] [qad (i : Int) 1] aE fun f54 h54_ => (aB ?_)))))
   exact ⟨_, (cO (cW r.plan.edges (k : Int))).length - (i + 1), aD, rfl, i + 1, aD, rfl, (Ag.cons (h54_.at 2) (Ag.cons (h54_.at 5) (Ag.cons (Eq.trans (show _ = I ((dU r ((cO (cW r.plan.edges (k : Int))).take i)) + 1) from (h54_.at 6)) (congrArg I (by rw [lD aD, oF aD]; simp only [h50p, decide_true, decide_false, Bool.false_eq_true, if_true, if_false]; try omega))) (Ag.cons (h54_.at 7) (Ag.cons (h54_.at 8) Ag.nil))))), st48⟩
  ·refine wp_skip (aA (rn st48 3 h46_ [8] [(8, I ((i : Int) + 1))] [qad (i : Int) 1] aE fun f56 h56_ => (aB ?_)))
   exact ⟨_, (cO (cW r.plan.edges (k : Int))).length - (i + 1), aD, rfl, i + 1, aD, rfl, (Ag.cons (h56_.at 2) (Ag.cons (h56_.at 5) (Ag.cons (Eq.trans (show _ = I (dU r ((cO (cW r.plan.edges (k : Int))).take i)) from (h56_.at 6)) (congrArg I (by rw [lD aD, oF aD]; simp only [h50p, decide_true, decide_false, Bool.false_eq_true, if_true, if_false]; try omega))) (Ag.cons (h56_.at 7) (Ag.cons (h56_.at 8) Ag.nil))))), st48⟩
 ·refine wp_exit (wp_seq (wp_seq (aA ?_)))
  have hneed : iN r (k : Int) = dU r ((cO (cW r.plan.edges (k : Int))).take i) := by unfold iN; rw [hbeq, show i = (cO (cW r.plan.edges (k : Int))).length by omega, List.take_length]
  have hk58 := hc10
  obtain ⟨he58, rfl, hok58⟩ := hk58
  have he58 : _ = [I (r.tasks[k]'hif4d94).state, I (r.tasks[k]'hif4d94).need, I (r.tasks[k]'hif4d94).try_, I (r.tasks[k]'hif4d94).until_] := he58
  subst he58
  rcases Decidable.em ((r.tasks[k]'hif4d94).need = (dU r ((cO (cW r.plan.edges (k : Int))).take i))) with h59p | h59p
  ·have h59 := gS h59p
   refine rc st37 13 h40_ [] [(48, .bool (!(inB (r.tasks[k]'hif4d94).try_ 0 r.plan.most)))] [qb 1 rfl 1, qk h59, qb 1 rfl 2, qb 2 rfl 2, qc (args := [I (r.tasks[k]'hif4d94).try_, I 0, I r.plan.most]) (v := .bool (inB (r.tasks[k]'hif4d94).try_ 0 r.plan.most)) Tryz.func43 rfl (fun W s b => cN W (r.tasks[k]'hif4d94).try_ 0 r.plan.most), .o] aE fun f60 W61 h60_ st62 hb63 => (aB (cT (h60_.at 48) (fun h64 => ?_) (fun h64 => ?_)))
   ·have h64p := cJ (aW h64)
    refine wp_seq (aA (sg (aC (v := .bool false) rfl (aB (wr (aL Tryz.results156 rfl ?_))))))
    exact ⟨(fB (by rw [cQ (by unfold bU; omega)])), st62.bare⟩
   ·have h64p := inB_iff'.1 (bG h64)
    refine wp_skip (wp_seq (wp_seq (aA ?_)))
    rcases nem ((r.tasks[k]'hif4d94).state = 3) with h68p | h68p
    ·have h68 := decide_eq_false h68p
     refine rn st62 19 h60_ [] [(67, .bool (!decide ((r.tasks[k]'hif4d94).until_ = 0)))] [qb 1 rfl 0, qk h68, qb 1 rfl 0, qk (congrArg not h68), qb 1 rfl 3, .o] aE fun f69 h69_ => (aB (cB (h69_.at 67) (fun h70p => ?_) (fun h70p => ?_)))
     ·refine wp_seq (aA (sg (aC (v := .bool false) rfl (aB (wr (aL Tryz.results156 rfl ?_))))))
      exact ⟨(fB (by rw [cQ (by unfold bU; omega)])), st62.bare⟩
     ·refine wp_skip (wp_seq (wp_seq (aA (sg (aH iB (h69_.at 5) (sg (aU eF rfl rfl (st62.get 1 rfl) (i := 0) rfl rfl (aB (wp_block (wp_seq (aA (sg (dI rfl rfl (sg (aC (v := .bool (decide ((r.tasks[k]'hif4d94).state = 1))) rfl ?_)))))))))))))))
      refine aB (aK rfl (fun h77p => ?_) (fun h77p => ?_))
      ·refine wp_seq (aA (rn st62 3 h69_.put.put.put.put [] [(4, .bool (decide (0 < (dU r ((cO (cW r.plan.edges (k : Int))).take i)))))] [.o] aE fun f79 h79_ => (aB ?_)))
       rcases nem (0 < (dU r ((cO (cW r.plan.edges (k : Int))).take i))) with h80p | h80p
       ·have h80 := decide_eq_false h80p
        refine wr (aL Tryz.results156 ((h79_.at 4).trans (congrArg Value.bool h80)) ?_)
        exact ⟨(fB (by rw [cQ (by unfold bU; omega)])), st62.bare⟩
       ·have h80 := decide_eq_true h80p
        refine wr (aL Tryz.results156 ((h79_.at 4).trans (congrArg Value.bool h80)) ?_)
        exact ⟨(fB (by rw [gG (by unfold bU; omega)])), st62.bare⟩
      ·refine wp_seq (aA (sg (dI rfl rfl (sg (aC (v := .bool (decide ((r.tasks[k]'hif4d94).state = 2))) rfl (aB (aK rfl (fun h83p => ?_) (fun h83p => ?_))))))))
       ·refine wp_seq (aA ?_)
        rcases nem ((dU r ((cO (cW r.plan.edges (k : Int))).take i)) = 0) with h85p | h85p
        ·have h85 := decide_eq_false h85p
         refine rn st62 11 h69_.put.put.put.put.put.put [] [(4, .bool false)] [qk h85] aE fun f86 h86_ => (aB (wr (aL Tryz.results156 (h86_.at 4) ?_)))
         exact ⟨(fB (by rw [cQ (by unfold bU; omega)])), st62.bare⟩
        ·have h85 := decide_eq_true h85p
         refine rn st62 11 h69_.put.put.put.put.put.put [] [(4, .bool (decide ((r.tasks[k]'hif4d94).try_ < r.plan.most)))] [qk h85, qb 1 rfl 2, qb 2 rfl 2, .o] aE fun f87 h87_ => (aB ?_)
         rcases nem ((r.tasks[k]'hif4d94).try_ < r.plan.most) with h88p | h88p
         ·have h88 := decide_eq_false h88p
          refine wr (aL Tryz.results156 ((h87_.at 4).trans (congrArg Value.bool h88)) ?_)
          exact ⟨(fB (by rw [cQ (by unfold bU; omega)])), st62.bare⟩
         ·have h88 := decide_eq_true h88p
          refine wr (aL Tryz.results156 ((h87_.at 4).trans (congrArg Value.bool h88)) ?_)
          exact ⟨(fB (by rw [gG (by unfold bU; omega)])), st62.bare⟩
       ·refine wp_seq (wp_seq (aA (sg (dI rfl rfl (sg (aC (v := .bool (decide ((r.tasks[k]'hif4d94).state = 3))) rfl (aB (gK rfl h68 (wp_seq (aA (sg (dI rfl rfl (sg (aC (v := .bool (decide ((r.tasks[k]'hif4d94).state = 4))) rfl (aB ?_)))))))))))))))
        refine aK rfl (fun h93p => ?_) (fun h93p => ?_)
        ·have h93 := decide_eq_true h93p
         refine wp_skip (fH rfl h93 (wp_seq (aA ?_)))
         rcases nem ((dU r ((cO (cW r.plan.edges (k : Int))).take i)) = 0) with h95p | h95p
         ·have h95 := decide_eq_false h95p
          refine lw h69_.put.put.put.put.put.put.put.put.put.put [(6, I (dU r ((cO (cW r.plan.edges (k : Int))).take i)))] aE fun h97_ => (rn st62 8 h97_ [] [(4, .bool false)] [qk h95] aE fun f96 h96_ => (aB (wr (aL Tryz.results156 (h96_.at 4) ?_))))
          exact ⟨(fB (by rw [cQ (by unfold bU; omega)])), st62.bare⟩
         ·have h95 := decide_eq_true h95p
          refine lw h69_.put.put.put.put.put.put.put.put.put.put [(5, .pointer (some ⟨b12, 0, none⟩)), (6, I (dU r ((cO (cW r.plan.edges (k : Int))).take i)))] aE fun h99_ => (rn st62 8 h99_ [] [(4, .bool (decide (1 ≤ (r.tasks[k]'hif4d94).try_)))] [qk h95, qb 1 rfl 2, .o] aE fun f98 h98_ => (aB ?_))
          rcases nem (1 ≤ (r.tasks[k]'hif4d94).try_) with h100p | h100p
          ·have h100 := decide_eq_false h100p
           refine wr (aL Tryz.results156 ((h98_.at 4).trans (congrArg Value.bool h100)) ?_)
           exact ⟨(fB (by rw [cQ (by unfold bU; omega)])), st62.bare⟩
          ·have h100 := decide_eq_true h100p
           refine wr (aL Tryz.results156 ((h98_.at 4).trans (congrArg Value.bool h100)) ?_)
           exact ⟨(fB (by rw [gG (by unfold bU; omega)])), st62.bare⟩
        ·have h93 := decide_eq_false h93p
         refine aA (sg (dI rfl rfl (sg (aC (v := .bool (decide ((r.tasks[k]'hif4d94).state = 5))) rfl (aB (aK rfl (fun h103p => ?_) (fun h103p => ?_)))))))
         ·refine wp_seq (aA ?_)
          rcases nem ((dU r ((cO (cW r.plan.edges (k : Int))).take i)) = 0) with h105p | h105p
          ·have h105 := decide_eq_false h105p
           refine lw h69_.put.put.put.put.put.put.put.put.put.put.put.put [(6, I (dU r ((cO (cW r.plan.edges (k : Int))).take i)))] aE fun h107_ => (rn st62 8 h107_ [] [(4, .bool false)] [qk h105] aE fun f106 h106_ => (aB (wr (aL Tryz.results156 (h106_.at 4) ?_))))
           exact ⟨(fB (by rw [cQ (by unfold bU; omega)])), st62.bare⟩
          ·have h105 := decide_eq_true h105p
           refine lw h69_.put.put.put.put.put.put.put.put.put.put.put.put [(5, .pointer (some ⟨b12, 0, none⟩)), (6, I (dU r ((cO (cW r.plan.edges (k : Int))).take i)))] aE fun h109_ => (rn st62 8 h109_ [] [(4, .bool (decide (1 ≤ (r.tasks[k]'hif4d94).try_)))] [qk h105, qb 1 rfl 2, .o] aE fun f108 h108_ => (aB ?_))
           rcases nem (1 ≤ (r.tasks[k]'hif4d94).try_) with h110p | h110p
           ·have h110 := decide_eq_false h110p
            refine wr (aL Tryz.results156 ((h108_.at 4).trans (congrArg Value.bool h110)) ?_)
            exact ⟨(fB (by rw [cQ (by unfold bU; omega)])), st62.bare⟩
           ·have h110 := decide_eq_true h110p
            refine wr (aL Tryz.results156 ((h108_.at 4).trans (congrArg Value.bool h110)) ?_)
            exact ⟨(fB (by rw [gG (by unfold bU; omega)])), st62.bare⟩
         ·refine wp_skip (wp_seq (aA (lw h69_.put.put.put.put.put.put.put.put.put.put.put.put [(5, .pointer (some ⟨b12, 0, none⟩))] aE fun h113_ => (rn st62 4 h113_ [] [(4, .bool (decide ((r.tasks[k]'hif4d94).state = 6)))] [qb 1 rfl 0, .o] aE fun f112 h112_ => (aB ?_)))))
          rcases nem ((r.tasks[k]'hif4d94).state = 6) with h114p | h114p
          ·have h114 := decide_eq_false h114p
           refine wr (aL Tryz.results156 ((h112_.at 4).trans (congrArg Value.bool h114)) ?_)
           exact ⟨(fB (by rw [cQ (by unfold bU; omega)])), st62.bare⟩
          ·have h114 := decide_eq_true h114p
           refine wr (aL Tryz.results156 ((h112_.at 4).trans (congrArg Value.bool h114)) ?_)
           exact ⟨(fB (by rw [gG (by unfold bU; omega)])), st62.bare⟩
    ·have h68 := decide_eq_true h68p
     rcases bd (!(inB (r.tasks[k]'hif4d94).until_ 1 1000000000)) with h115 | h115
     ·have h115p := inB_iff'.1 (bG h115)
      refine rc st62 19 h60_ [] [(67, .bool false)] [qb 1 rfl 0, qk h68, qb 1 rfl 3, qc (args := [I (r.tasks[k]'hif4d94).until_, I 1, I 1000000000]) (v := .bool (inB (r.tasks[k]'hif4d94).until_ 1 1000000000)) Tryz.func43 rfl (fun W s b => cN W (r.tasks[k]'hif4d94).until_ 1 1000000000), qk h115, qb 1 rfl 0, qk (congrArg not h68)] aE fun f116 W117 h116_ st118 hb119 => (aB (gK (h116_.at 67) rfl (wp_skip (wp_seq (wp_seq (aA (sg (aH iB (h116_.at 5) (sg (aU eF rfl rfl (st118.get 1 rfl) (i := 0) rfl rfl (aB (wp_block (wp_seq ?_)))))))))))))
      refine aA (sg (dI rfl rfl (sg (aC (v := .bool (decide ((r.tasks[k]'hif4d94).state = 1))) rfl (aB (aK rfl (fun h124p => ?_) (fun h124p => ?_)))))))
      ·refine wp_seq (aA (rn st118 3 h116_.put.put.put.put [] [(4, .bool (decide (0 < (dU r ((cO (cW r.plan.edges (k : Int))).take i)))))] [.o] aE fun f126 h126_ => (aB ?_)))
       rcases nem (0 < (dU r ((cO (cW r.plan.edges (k : Int))).take i))) with h127p | h127p
       ·have h127 := decide_eq_false h127p
        refine wr (aL Tryz.results156 ((h126_.at 4).trans (congrArg Value.bool h127)) ?_)
        exact ⟨(fB (by rw [cQ (by unfold bU; omega)])), st118.bare⟩
       ·have h127 := decide_eq_true h127p
        refine wr (aL Tryz.results156 ((h126_.at 4).trans (congrArg Value.bool h127)) ?_)
        exact ⟨(fB (by rw [gG (by unfold bU; omega)])), st118.bare⟩
      ·refine wp_seq (aA (sg (dI rfl rfl (sg (aC (v := .bool (decide ((r.tasks[k]'hif4d94).state = 2))) rfl (aB (aK rfl (fun h130p => ?_) (fun h130p => ?_))))))))
       ·refine wp_seq (aA ?_)
        rcases nem ((dU r ((cO (cW r.plan.edges (k : Int))).take i)) = 0) with h132p | h132p
        ·have h132 := decide_eq_false h132p
         refine rn st118 11 h116_.put.put.put.put.put.put [] [(4, .bool false)] [qk h132] aE fun f133 h133_ => (aB (wr (aL Tryz.results156 (h133_.at 4) ?_)))
         exact ⟨(fB (by rw [cQ (by unfold bU; omega)])), st118.bare⟩
        ·have h132 := decide_eq_true h132p
         refine rn st118 11 h116_.put.put.put.put.put.put [] [(4, .bool (decide ((r.tasks[k]'hif4d94).try_ < r.plan.most)))] [qk h132, qb 1 rfl 2, qb 2 rfl 2, .o] aE fun f134 h134_ => (aB ?_)
         rcases nem ((r.tasks[k]'hif4d94).try_ < r.plan.most) with h135p | h135p
         ·have h135 := decide_eq_false h135p
          refine wr (aL Tryz.results156 ((h134_.at 4).trans (congrArg Value.bool h135)) ?_)
          exact ⟨(fB (by rw [cQ (by unfold bU; omega)])), st118.bare⟩
         ·have h135 := decide_eq_true h135p
          refine wr (aL Tryz.results156 ((h134_.at 4).trans (congrArg Value.bool h135)) ?_)
          exact ⟨(fB (by rw [gG (by unfold bU; omega)])), st118.bare⟩
       ·refine wp_seq (wp_seq (aA (sg (dI rfl rfl (sg (aC (v := .bool (decide ((r.tasks[k]'hif4d94).state = 3))) rfl (aB (fH rfl h68 (wp_skip (fH rfl h68 (wp_seq (aA ?_))))))))))))
        rcases nem ((dU r ((cO (cW r.plan.edges (k : Int))).take i)) = 0) with h139p | h139p
        ·have h139 := decide_eq_false h139p
         refine rn st118 8 h116_.put.put.put.put.put.put.put.put [] [(4, .bool false)] [qk h139] aE fun f140 h140_ => (aB (wr (aL Tryz.results156 (h140_.at 4) ?_)))
         exact ⟨(fB (by rw [cQ (by unfold bU; omega)])), st118.bare⟩
        ·have h139 := decide_eq_true h139p
         refine rn st118 8 h116_.put.put.put.put.put.put.put.put [] [(4, .bool (decide (1 ≤ (r.tasks[k]'hif4d94).try_)))] [qk h139, qb 1 rfl 2, .o] aE fun f141 h141_ => (aB ?_)
         rcases nem (1 ≤ (r.tasks[k]'hif4d94).try_) with h142p | h142p
         ·have h142 := decide_eq_false h142p
          refine wr (aL Tryz.results156 ((h141_.at 4).trans (congrArg Value.bool h142)) ?_)
          exact ⟨(fB (by rw [cQ (by unfold bU; omega)])), st118.bare⟩
         ·have h142 := decide_eq_true h142p
          refine wr (aL Tryz.results156 ((h141_.at 4).trans (congrArg Value.bool h142)) ?_)
          exact ⟨(fB (by rw [gG (by unfold bU; omega)])), st118.bare⟩
     ·have h115p := cJ (aW h115)
      refine rc st62 19 h60_ [] [(67, .bool true)] [qb 1 rfl 0, qk h68, qb 1 rfl 3, qc (args := [I (r.tasks[k]'hif4d94).until_, I 1, I 1000000000]) (v := .bool (inB (r.tasks[k]'hif4d94).until_ 1 1000000000)) Tryz.func43 rfl (fun W s b => cN W (r.tasks[k]'hif4d94).until_ 1 1000000000), qk h115] aE fun f143 W144 h143_ st145 hb146 => (aB (fH (h143_.at 67) rfl (wp_seq (aA (sg (aC (v := .bool false) rfl (aB (wr (aL Tryz.results156 rfl ?_)))))))))
      exact ⟨(fB (by rw [cQ (by unfold bU; omega)])), st145.bare⟩
  ·have h59 := gR h59p
   refine rn st37 13 h40_ [] [(48, .bool true)] [qb 1 rfl 1, qk h59] aE fun f149 h149_ => (aB (fH (h149_.at 48) rfl (wp_seq (aA (sg (aC (v := .bool false) rfl (aB (wr (aL Tryz.results156 rfl ?_)))))))))
   exact ⟨(fB (by rw [cQ (by unfold bU; omega)])), st37.bare⟩
theorem zD (w : World) {r : Run} {cs : List Value} {fp : List Nat} (hc : Shape.C w cs r fp) (hS : ∀ t ∈ r.tasks, 1 ≤ t.state ∧ t.state ≤ 6) (hl : r.tasks.length ≤ 1048576) :
  Calls Tryz.prog 157 #[.agg cs.toArray] w fun e w' => e = .returned (I (dM r.tasks)) ∧ St w w' [] := by
 have hcap : r.tasks.length ≤ 9223372036854775807 := by have h0 := hc; obtain ⟨v1, v2, f1, f2, h0, hok, h1, h2, hfp⟩ := h0; exact h2.len_le
 refine cR Tryz.func157 rfl Tryz.ntmps157 aX (wp_seq (aA (sg (aJ (cs := cs) rfl (St.start w) ?_)))); intro b1 W2 hb3 st4
 refine sg (aC (v := I 0) rfl (aB (wp_seq (aA (sg (aT (cs := [I 0, I 0, I 0, I 0, I 0, I 0, I 0]) (e := 3) (cY (v := I 0) rfl (cY (v := I 0) rfl (cY (v := I 0) rfl (cY (v := I 0) rfl (cY (v := I 0) rfl (cY (v := I 0) rfl (cY (v := I 0) rfl eA))))))) (run_buildSliceN cZ _ rfl (mL rfl (mL rfl (mL rfl (mL rfl (mL rfl (mL rfl (mL rfl lc_nil)))))))) st4 ?_)))))); intro b8 W9 hb10 st11
 refine sg (aC (v := .slice (some ⟨b8, 0, none⟩) 7 7) rfl (aB (wp_seq (wp_seq (aA (sg (aC (v := I 0) rfl (aB (wp_block ?_)))))))))
 have st17 := St.row_lit (α := Int) (ys := [0, 0, 0, 0, 0, 0, 0]) st11 rfl bP (Elems.ic dX (Elems.ic dX (Elems.ic dX (Elems.ic dX (Elems.ic dX (Elems.ic dX (Elems.ic dX Elems.i0)))))))
 have hq_ := st17.shut
 obtain ⟨fp18, st19⟩ := hq_
 refine aY (fun (m : Nat) (f : Nat → Value) (W : World) => ∃ (k : Nat) (fo20 : List Nat), k ≤ r.tasks.length ∧ m = r.tasks.length - k ∧ Ag [(1, .pointer (some ⟨b1, 0, none⟩)), (3, (.slice (some ⟨b8, 0, none⟩) 7 7)), (4, I (k : Int))] f ∧ St w W ([Res.own (α := List Int) (.slice (some ⟨b8, 0, none⟩) 7 7) (eT (r.tasks.take k)) fo20, Res.bx b1 cs 123])) (r.tasks.length - 0) ?_ ?_
 ·exact ⟨0, fp18, aD, rfl, (Ag.nil.put.put.put.put.put.put.to aE), (by rw [List.take_zero, cnts_nil]; exact st19)⟩
 intro m21 f22 W23 hJ24
 obtain ⟨k, fo20, hk, rfl, hA26, st25⟩ := hJ24
 refine wp_seq (wp_seq (aA ?_))
 have hk28 := hc
 obtain ⟨v28_0, v28_1, g28_0, g28_1, rfl, hok28, h28_0, h28_1, rfl⟩ := hk28
 refine rn st25 5 hA26 [] [(11, .bool (decide ((k : Int) < (r.tasks.length : Int))))] [qb 1 rfl 7, ql h28_1, .o] aE fun f29 h29_ => (aB (aK (h29_.at 11) (fun h30p => ?_) (fun h30p => ?_)))
 ·refine wp_skip (wp_seq (wp_block (aA ?_)))
  have hif4d94 : k < r.tasks.length := aD
  have hq_ := idx h28_1 (i := k) hif4d94
  obtain ⟨b32, o32, cs32, f32, hp32, hr32, hc32, hm32⟩ := hq_
  have hk33 := hc32
  obtain ⟨he33, rfl, hok33⟩ := hk33
  have he33 : _ = [I (r.tasks[k]'hif4d94).state, I (r.tasks[k]'hif4d94).need, I (r.tasks[k]'hif4d94).try_, I (r.tasks[k]'hif4d94).until_] := he33
  subst he33
  refine rn st25 7 h29_ [] [(14, (.slice (some ⟨b8, 0, none⟩) 7 7)), (20, I (r.tasks[k]'hif4d94).state)] [qb 1 rfl 7, qx hp32, qr hr32 0] aE fun f34 h34_ => ?_
  have hsk := hS _ (List.getElem_mem (l := r.tasks) (n := k) aD)
  have hcl := rC (r.tasks.take k)
  have htl := List.length_take_le k r.tasks
  have hi2be82 : ((r.tasks[k]'hif4d94).state).toNat < (eT (r.tasks.take k)).length := aD
  have hq_ := idx (aI (st25.get 0 rfl)) (i := ((r.tasks[k]'hif4d94).state).toNat) hi2be82
  obtain ⟨b35, o35, cs35, f35, hp35, hr35, hc35, hm35⟩ := hq_
  have hk35 := hc35
  obtain ⟨rfl, rfl, hok35⟩ := hk35
  refine sg (aN eP (h34_.at 14) hp35 (h34_.at 20) aD ?_)
  have hcr := cnts_rng (r.tasks.take k) (r.tasks[k]'(by omega)).state.toNat aD
  refine rn st25 3 h34_.put [] [(23, I (((eT (r.tasks.take k))[((r.tasks[k]'hif4d94).state).toNat]'hi2be82) + 1)), (24, .pointer (some ⟨b35, o35, none⟩))] [qn hr35 0, qad ((eT (r.tasks.take k))[((r.tasks[k]'hif4d94).state).toNat]'hi2be82) 1, qxe hp35 (e := (r.tasks[k]'hif4d94).state) aD] aE fun f39 h39_ => (sgn (rN (α := Int) (z := ((eT (r.tasks.take k))[((r.tasks[k]'hif4d94).state).toNat]'hi2be82) + 1) rfl aE (h39_.at 24) hp35 hi2be82 (h39_.at 23) rfl rfl st25 (fun W => ⟨rfl, rfl, dX⟩) ?_)); intro fp40 W41 st42
  refine aB (aA (rn st42 3 h39_ [4] [(4, I ((k : Int) + 1))] [qad (k : Int) 1] aE fun f44 h44_ => (aB ?_)))
  exact ⟨_, r.tasks.length - (k + 1), aD, rfl, k + 1, fp40, aD, rfl, (h44_.to aE), (by rw [← cnts_set aD (hS _ (List.getElem_mem _)) (by rw [rC]; omega)]; exact st42)⟩
 ·refine wp_exit (wp_seq ?_)
  have hkl : k = r.tasks.length := by omega
  have hcl := rC (r.tasks.take k)
  have hso := oR r.tasks
  have hk0 : r.tasks.take k = r.tasks := by rw [hkl, List.take_length]
  have hq1 : (eT (r.tasks.take k))[1]'(by omega) = cM r.tasks 1 := (sA _ 1 _).trans (by rw [hk0]; rfl)
  have hq2 : (eT (r.tasks.take k))[2]'(by omega) = cM r.tasks 2 := (sA _ 2 _).trans (by rw [hk0]; rfl)
  have hq3 : (eT (r.tasks.take k))[3]'(by omega) = cM r.tasks 3 := (sA _ 3 _).trans (by rw [hk0]; rfl)
  have hq4 : (eT (r.tasks.take k))[4]'(by omega) = cM r.tasks 4 := (sA _ 4 _).trans (by rw [hk0]; rfl)
  have hq5 : (eT (r.tasks.take k))[5]'(by omega) = cM r.tasks 5 := (sA _ 5 _).trans (by rw [hk0]; rfl)
  have hq6 : (eT (r.tasks.take k))[6]'(by omega) = cM r.tasks 6 := (sA _ 6 _).trans (by rw [hk0]; rfl)
  have hnn1 := dV r.tasks 1
  have hnn2 := dV r.tasks 2
  have hnn3 := dV r.tasks 3
  have hnn4 := dV r.tasks 4
  have hnn5 := dV r.tasks 5
  have hnn6 := dV r.tasks 6
  have hll1 := mR r.tasks 1
  have hll2 := mR r.tasks 2
  have hll3 := mR r.tasks 3
  have hll4 := mR r.tasks 4
  have hll5 := mR r.tasks 5
  have hll6 := mR r.tasks 6
  have hi25f68 : 1 < (eT (r.tasks.take k)).length := aD
  have hq_ := idx (aI (st25.get 0 rfl)) (i := 1) hi25f68
  obtain ⟨b46, o46, cs46, f46, hp46, hr46, hc46, hm46⟩ := hq_
  have hk46 := hc46
  obtain ⟨rfl, rfl, hok46⟩ := hk46
  have hi416b4 : 2 < (eT (r.tasks.take k)).length := aD
  have hq_ := idx (aI (st25.get 0 rfl)) (i := 2) hi416b4
  obtain ⟨b47, o47, cs47, f47, hp47, hr47, hc47, hm47⟩ := hq_
  have hk47 := hc47
  obtain ⟨rfl, rfl, hok47⟩ := hk47
  have hi98b8f : 3 < (eT (r.tasks.take k)).length := aD
  have hq_ := idx (aI (st25.get 0 rfl)) (i := 3) hi98b8f
  obtain ⟨b48, o48, cs48, f48, hp48, hr48, hc48, hm48⟩ := hq_
  have hk48 := hc48
  obtain ⟨rfl, rfl, hok48⟩ := hk48
  refine rd st25 h29_ [] [(5, I ((((eT (r.tasks.take k))[1]'hi25f68) + ((eT (r.tasks.take k))[2]'hi416b4)) + ((eT (r.tasks.take k))[3]'hi98b8f)))] [qx hp46, qn hr46 0, qx hp47, qn hr47 0, qad ((eT (r.tasks.take k))[1]'hi25f68) ((eT (r.tasks.take k))[2]'hi416b4), qx hp48, qn hr48 0, qad (((eT (r.tasks.take k))[1]'hi25f68) + ((eT (r.tasks.take k))[2]'hi416b4)) ((eT (r.tasks.take k))[3]'hi98b8f)] aE aE fun f49 W50 h49_ st51 hb52 => (wp_seq (wp_block (wp_seq ?_)))
  have hi7bb14 : 4 < (eT (r.tasks.take k)).length := aD
  have hq_ := idx (aI (st51.get 0 rfl)) (i := 4) hi7bb14
  obtain ⟨b54, o54, cs54, f54, hp54, hr54, hc54, hm54⟩ := hq_
  have hk54 := hc54
  obtain ⟨rfl, rfl, hok54⟩ := hk54
  refine rd st51 h49_ [] [(36, .bool (decide (((eT (r.tasks.take k))[4]'hi7bb14) = (r.tasks.length : Int))))] [qx hp54, qn hr54 0, qb 1 rfl 7, ql h28_1, .o] aE aE fun f55 W56 h55_ st57 hb58 => (aK (h55_.at 36) (fun h59p => ?_) (fun h59p => ?_))
  ·refine wp_seq (aA (sg (aC (v := I 2) rfl (aB (wr (aL Tryz.results157 rfl ?_))))))
   exact ⟨(fI aD), st57.bare⟩
  ·refine wp_seq (aA ?_)
   have hi9ea3c : 5 < (eT (r.tasks.take k)).length := aD
   have hq_ := idx (aI (st57.get 0 rfl)) (i := 5) hi9ea3c
   obtain ⟨b63, o63, cs63, f63, hp63, hr63, hc63, hm63⟩ := hq_
   have hk63 := hc63
   obtain ⟨rfl, rfl, hok63⟩ := hk63
   rcases nem (((eT (r.tasks.take k))[5]'hi9ea3c) = 1) with h64p | h64p
   ·have h64 := decide_eq_false h64p
    refine rn st57 9 h55_ [] [(44, .bool false)] [qx hp63, qn hr63 0, qk h64] aE fun f65 h65_ => (aB (gK (h65_.at 44) rfl (wp_seq (aA ?_))))
    rcases nem (((eT (r.tasks.take k))[5]'hi9ea3c) = 0) with h67p | h67p
    ·have h67 := decide_eq_false h67p
     refine rn st57 15 h65_ [] [(53, .bool false)] [qx hp63, qn hr63 0, qk h67] aE fun f68 h68_ => (aB (gK (h68_.at 53) rfl (wp_seq (aA (rn st57 11 h68_ [] [(68, .bool false)] [qx hp63, qn hr63 0, qk h67] aE fun f70 h70_ => (aB (gK (h70_.at 68) rfl (wp_skip (wp_seq (aA (sg (aC (v := I 0) rfl ?_))))))))))))
     refine aB (wr (aL Tryz.results157 rfl ?_))
     exact ⟨(fI aD), st57.bare⟩
    ·have h67 := decide_eq_true h67p
     have hi05ed7 : 6 < (eT (r.tasks.take k)).length := aD
     have hq_ := idx (aI (st57.get 0 rfl)) (i := 6) hi05ed7
     obtain ⟨b73, o73, cs73, f73, hp73, hr73, hc73, hm73⟩ := hq_
     have hk73 := hc73
     obtain ⟨rfl, rfl, hok73⟩ := hk73
     rcases nem (0 < ((eT (r.tasks.take k))[6]'hi05ed7)) with h74p | h74p
     ·have h74 := decide_eq_false h74p
      refine rn st57 15 h65_ [] [(53, .bool false)] [qx hp63, qn hr63 0, qk h67, qx hp73, qn hr73 0, qk h74] aE fun f75 h75_ => (aB (gK (h75_.at 53) rfl (wp_seq (aA (rn st57 11 h75_ [] [(68, .bool (decide (((eT (r.tasks.take k))[6]'hi05ed7) = 0)))] [qx hp63, qn hr63 0, qk h67, qx hp73, qn hr73 0, .o] aE fun f77 h77_ => (aB (aK (h77_.at 68) (fun h78p => ?_) (fun h78p => ?_))))))))
      ·refine wp_seq (aA (sg (aC (v := I 1) rfl (aB (wr (aL Tryz.results157 rfl ?_))))))
       exact ⟨(fI aD), st57.bare⟩
      ·refine wp_skip (wp_seq (aA (sg (aC (v := I 0) rfl (aB (wr (aL Tryz.results157 rfl ?_)))))))
       exact ⟨(fI aD), st57.bare⟩
     ·have h74 := decide_eq_true h74p
      refine rn st57 15 h65_ [] [(53, .bool (decide (((((eT (r.tasks.take k))[1]'hi25f68) + ((eT (r.tasks.take k))[2]'hi416b4)) + ((eT (r.tasks.take k))[3]'hi98b8f)) = 0)))] [qx hp63, qn hr63 0, qk h67, qx hp73, qn hr73 0, qk h74, .o] aE fun f83 h83_ => (aB (aK (h83_.at 53) (fun h84p => ?_) (fun h84p => ?_)))
      ·refine wp_seq (aA (sg (aC (v := I 4) rfl (aB (wr (aL Tryz.results157 rfl ?_))))))
       exact ⟨(fI aD), st57.bare⟩
      ·refine wp_seq (aA (rn st57 11 h83_ [] [(68, .bool (decide (((eT (r.tasks.take k))[6]'hi05ed7) = 0)))] [qx hp63, qn hr63 0, qk h67, qx hp73, qn hr73 0, .o] aE fun f88 h88_ => (aB (aK (h88_.at 68) (fun h89p => ?_) (fun h89p => ?_)))))
       ·refine wp_seq (aA (sg (aC (v := I 1) rfl (aB (wr (aL Tryz.results157 rfl ?_))))))
        exact ⟨(fI aD), st57.bare⟩
       ·refine wp_skip (wp_seq (aA (sg (aC (v := I 0) rfl (aB (wr (aL Tryz.results157 rfl ?_)))))))
        exact ⟨(fI aD), st57.bare⟩
   ·have h64 := decide_eq_true h64p
    refine rn st57 9 h55_ [] [(44, .bool (decide (((((eT (r.tasks.take k))[1]'hi25f68) + ((eT (r.tasks.take k))[2]'hi416b4)) + ((eT (r.tasks.take k))[3]'hi98b8f)) = 0)))] [qx hp63, qn hr63 0, qk h64, .o] aE fun f94 h94_ => (aB (aK (h94_.at 44) (fun h95p => ?_) (fun h95p => ?_)))
    ·have h95 := decide_eq_true h95p
     refine wp_seq (aA (sg (aC (v := I 3) rfl (aB (wr (aL Tryz.results157 rfl ?_))))))
     exact ⟨(fI aD), st57.bare⟩
    ·have h95 := decide_eq_false h95p
     refine wp_seq (aA ?_)
     rcases nem (((eT (r.tasks.take k))[5]'hi9ea3c) = 0) with h99p | h99p
     ·have h99 := decide_eq_false h99p
      refine rn st57 15 h94_ [] [(53, .bool false)] [qx hp63, qn hr63 0, qk h99] aE fun f100 h100_ => (aB (gK (h100_.at 53) rfl (wp_seq (aA (rn st57 11 h100_ [] [(68, .bool false)] [qx hp63, qn hr63 0, qk h99] aE fun f102 h102_ => (aB (gK (h102_.at 68) rfl (wp_skip (wp_seq (aA (sg (aC (v := I 0) rfl ?_))))))))))))
      refine aB (wr (aL Tryz.results157 rfl ?_))
      exact ⟨(fI aD), st57.bare⟩
     ·have h99 := decide_eq_true h99p
      have hi05ed7 : 6 < (eT (r.tasks.take k)).length := aD
      have hq_ := idx (aI (st57.get 0 rfl)) (i := 6) hi05ed7
      obtain ⟨b105, o105, cs105, f105, hp105, hr105, hc105, hm105⟩ := hq_
      have hk105 := hc105
      obtain ⟨rfl, rfl, hok105⟩ := hk105
      rcases nem (0 < ((eT (r.tasks.take k))[6]'hi05ed7)) with h106p | h106p
      ·have h106 := decide_eq_false h106p
       refine rn st57 15 h94_ [] [(53, .bool false)] [qx hp63, qn hr63 0, qk h99, qx hp105, qn hr105 0, qk h106] aE fun f107 h107_ => (aB (gK (h107_.at 53) rfl (wp_seq (aA (rn st57 11 h107_ [] [(68, .bool (decide (((eT (r.tasks.take k))[6]'hi05ed7) = 0)))] [qx hp63, qn hr63 0, qk h99, qx hp105, qn hr105 0, .o] aE fun f109 h109_ => (aB (aK (h109_.at 68) (fun h110p => ?_) (fun h110p => ?_))))))))
       ·refine wp_seq (aA (sg (aC (v := I 1) rfl (aB (wr (aL Tryz.results157 rfl ?_))))))
        exact ⟨(fI aD), st57.bare⟩
       ·refine wp_skip (wp_seq (aA (sg (aC (v := I 0) rfl (aB (wr (aL Tryz.results157 rfl ?_)))))))
        exact ⟨(fI aD), st57.bare⟩
      ·have h106 := decide_eq_true h106p
       refine rn st57 15 h94_ [] [(53, .bool false)] [qx hp63, qn hr63 0, qk h99, qx hp105, qn hr105 0, qk h106, qk h95] aE fun f115 h115_ => (aB (gK (h115_.at 53) rfl (wp_seq (aA (rn st57 11 h115_ [] [(68, .bool (decide (((eT (r.tasks.take k))[6]'hi05ed7) = 0)))] [qx hp63, qn hr63 0, qk h99, qx hp105, qn hr105 0, .o] aE fun f117 h117_ => (aB (aK (h117_.at 68) (fun h118p => ?_) (fun h118p => ?_))))))))
       ·refine wp_seq (aA (sg (aC (v := I 1) rfl (aB (wr (aL Tryz.results157 rfl ?_))))))
        exact ⟨(fI aD), st57.bare⟩
       ·refine wp_skip (wp_seq (aA (sg (aC (v := I 0) rfl (aB (wr (aL Tryz.results157 rfl ?_)))))))
        exact ⟨(fI aD), st57.bare⟩
theorem uW (w : World) {r : Run} {cs : List Value} {fp : List Nat} (hc : Shape.C w cs r fp) :
  Calls Tryz.prog 89 #[.agg cs.toArray] w fun e w' => e = .returned (.bool (dK r)) ∧ St w w' [] := by
 have hcap : r.tasks.length ≤ 9223372036854775807 := by have h0 := hc; obtain ⟨v1, v2, f1, f2, h0, hok, h1, h2, hfp⟩ := h0; exact h2.len_le
 refine cR Tryz.func89 rfl Tryz.ntmps89 aX (wp_seq (aA (sg (aJ (cs := cs) rfl (St.start w) ?_)))); intro b1 W2 hb3 st4
 refine sg (aC (v := .bool false) rfl (aB (wp_seq (wp_seq (aA ?_)))))
 have hk9 := hc
 obtain ⟨v9_0, v9_1, g9_0, g9_1, rfl, hok9, h9_0, h9_1, rfl⟩ := hk9
 rcases bd (!(inB r.id 1 9999)) with h10 | h10
 ·have h10p := inB_iff'.1 (bG h10)
  rcases Decidable.em ((cX r.plan) = 0) with h11p | h11p
  ·have h11 := gS h11p
   refine rc st4 19 Ag.nil.put.put.put [] [(23, .bool (!decide ((r.tasks.length : Int) = r.plan.tasks)))] [qb 0 rfl 0, qc Tryz.func43 rfl (fun W s b => cN W r.id 1 9999), qk h10, qb 0 rfl 1, qc Tryz.func155 rfl (fun W s b => uY W (show Shape.C _ [I r.plan.prio, I r.plan.most, I r.plan.wait, I r.plan.tasks, v9_0] r.plan _ from ⟨_, _, rfl, eS, (h9_0.below s.below), rfl⟩)), qk h11, qb 0 rfl 7, ql h9_1, qb 0 rfl 4, .o] aE fun f12 W13 h12_ st14 hb15 => (aB (cB (h12_.at 23) (fun h16p => ?_) (fun h16p => ?_)))
   ·refine wp_seq (aA (sg (aC (v := .bool false) rfl (aB (wr (aL Tryz.results89 rfl ?_))))))
    exact ⟨(fB (by unfold dK; rw [cQ (by rintro ⟨hz1, hz2, hz3, hz4, hz5, hz6⟩; omega)])), st14.bare⟩
   ·refine wp_skip (wp_seq (wp_seq (aA ?_)))
    have hP : cX r.plan = 0 := by omega
    have hMb := pM (lU hP).1
    refine sg (aC (v := I 0) rfl (aB (wp_block (aY (fun (m : Nat) (f : Nat → Value) (W : World) => ∃ (i : Nat), i ≤ r.tasks.length ∧ (∀ t ∈ r.tasks.take i, 1 ≤ t.state ∧ t.state ≤ 6) ∧ m = r.tasks.length - i ∧ Ag [(1, .pointer (some ⟨b1, 0, none⟩)), (3, I (i : Int))] f ∧ St w W ([Res.bx b1 [I r.id, I r.plan.prio, I r.plan.most, I r.plan.wait, I r.plan.tasks, v9_0, I r.state, v9_1] 123])) (r.tasks.length - 0) ?_ ?_))))
    ·exact ⟨0, aD, (by simp), rfl, (h12_.put.to aE), st14⟩
    intro m21 f22 W23 hJ24
    obtain ⟨i, hk, hSk, rfl, hA26, st25⟩ := hJ24
    refine wp_seq (wp_seq (aA (rn st25 5 hA26 [] [(28, .bool (decide ((i : Int) < (r.tasks.length : Int))))] [qb 0 rfl 7, ql h9_1, .o] aE fun f28 h28_ => (aB (aK (h28_.at 28) (fun h29p => ?_) (fun h29p => ?_))))))
    ·refine wp_skip (wp_seq (wp_block (wp_seq (aA ?_))))
     have hi4283f : i < r.tasks.length := aD
     have hq_ := idx h9_1 (i := i) hi4283f
     obtain ⟨b31, o31, cs31, f31, hp31, hr31, hc31, hm31⟩ := hq_
     have hk32 := hc31
     obtain ⟨he32, rfl, hok32⟩ := hk32
     have he32 : _ = [I (r.tasks[i]'hi4283f).state, I (r.tasks[i]'hi4283f).need, I (r.tasks[i]'hi4283f).try_, I (r.tasks[i]'hi4283f).until_] := he32
     subst he32
     refine rc st25 8 h28_ [] [(38, .bool (!(inB (r.tasks[i]'hi4283f).state 1 6)))] [qb 0 rfl 7, qx hp31, qr hr31 0, qc (args := [I (r.tasks[i]'hi4283f).state, I 1, I 6]) (v := .bool (inB (r.tasks[i]'hi4283f).state 1 6)) Tryz.func43 rfl (fun W s b => cN W (r.tasks[i]'hi4283f).state 1 6), .o] aE fun f33 W34 h33_ st35 hb36 => (aB (cT (h33_.at 38) (fun h37 => ?_) (fun h37 => ?_)))
     ·have h37p := cJ (aW h37)
      refine wp_seq (aA (sg (aC (v := .bool false) rfl (aB (wr (aL Tryz.results89 rfl ?_))))))
      exact ⟨(fB (by unfold dK; rw [cQ (fun hz => by have hz2 := (hz.2.2.2.1 i aD aD).1; omega)])), st35.bare⟩
     ·have h37p := inB_iff'.1 (bG h37)
      refine wp_skip (aA (sg (aF (v := I (i : Int)) (h33_.at 3) (sg (bY rfl rfl dX (sg (aC (v := I ((i : Int) + 1)) rfl (aB ?_))))))))
      exact ⟨_, r.tasks.length - (i + 1), aD, rfl, i + 1, aD, (fun t ht => by rw [List.take_succ_eq_append_getElem aD] at ht; rcases List.mem_append.1 ht with h1 | h1; exact hSk t h1; rw [List.mem_singleton] at h1; subst h1; omega), rfl, (h33_.put.put.put.to aE), st35⟩
    ·refine wp_exit (wp_seq (wp_seq (aA ?_)))
     have hS : ∀ t ∈ r.tasks, 1 ≤ t.state ∧ t.state ≤ 6 := by rw [show i = r.tasks.length by omega, List.take_length] at hSk; exact hSk
     refine sg (aC (v := I 0) rfl (aB (wp_block (aY (fun (m : Nat) (f : Nat → Value) (W : World) => ∃ (k : Nat), k ≤ r.tasks.length ∧ (∀ j, j < k → lA r j) ∧ m = r.tasks.length - k ∧ Ag [(1, .pointer (some ⟨b1, 0, none⟩)), (4, I (k : Int))] f ∧ St w W ([Res.bx b1 [I r.id, I r.plan.prio, I r.plan.most, I r.plan.wait, I r.plan.tasks, v9_0, I r.state, v9_1] 123])) (r.tasks.length - 0) ?_ ?_))))
     ·exact ⟨0, aD, (fun j hj => absurd hj (Nat.not_lt_zero j)), rfl, (h28_.put.to aE), st25⟩
     intro m46 f47 W48 hJ49
     obtain ⟨k, hk, hT, rfl, hA51, st50⟩ := hJ49
     refine wp_seq (wp_seq (aA (rn st50 5 hA51 [] [(43, .bool (decide ((k : Int) < (r.tasks.length : Int))))] [qb 0 rfl 7, ql h9_1, .o] aE fun f53 h53_ => (aB (aK (h53_.at 43) (fun h54p => ?_) (fun h54p => ?_))))))
     ·refine wp_skip (wp_seq (wp_block (wp_seq (aA (rc st50 4 h53_ [] [(49, .bool (!(pB (bU r (iN r (k : Int)) (r.tasks[k]'(by omega))))))] [qb 0 rfl 0, qc (args := [.agg #[I r.id, I r.plan.prio, I r.plan.most, I r.plan.wait, I r.plan.tasks, v9_0, I r.state, v9_1], I (k : Int)]) (v := .bool (pB (bU r (iN r (k : Int)) (r.tasks[k]'(by omega))))) Tryz.func156 rfl (fun W s b => TaskOkS W (bA hc s.below) (k := k) aD aD aD (hS _ (List.getElem_mem _))), .o] aE fun f56 W57 h56_ st58 hb59 => (aB (cT (h56_.at 49) (fun h60 => ?_) (fun h60 => ?_))))))))
      ·refine wp_seq (aA (sg (aC (v := .bool false) rfl (aB (wr (aL Tryz.results89 rfl ?_))))))
       exact ⟨(fB (by unfold dK; rw [cQ (fun hz => yY (aW h60) (hz.2.2.2.1 k aD aD))])), st58.bare⟩
      ·refine wp_skip (aA (sg (aF (v := I (k : Int)) (h56_.at 4) (sg (bY rfl rfl dX (sg (aC (v := I ((k : Int) + 1)) rfl (aB ?_))))))))
       exact ⟨_, r.tasks.length - (k + 1), aD, rfl, k + 1, aD, (fun j hj => by rcases Nat.lt_succ_iff_lt_or_eq.1 hj with h1 | rfl; exact hT j h1; exact fun _ => pB_iff.1 ((bG h60))), rfl, (h56_.put.put.put.to aE), st58⟩
     ·refine wp_exit (wp_seq ?_)
      rcases nem (r.state = (dM r.tasks)) with h68p | h68p
      ·have h68 := decide_eq_false h68p
       have hTk : ∀ j, j < r.tasks.length → lA r j := by rw [show k = r.tasks.length by omega] at hT; exact hT
       refine rd st50 h53_ [] [(2, .bool false)] [qb 0 rfl 6, qb 0 rfl 0, qc Tryz.func157 rfl (fun W s b => zD W (bA hc s.below) hS aD), qk h68] aE aE fun f70 W71 h70_ st72 hb73 => (wr (aL Tryz.results89 (h70_.at 2) ?_))
       exact ⟨(fB (by unfold dK; rw [cQ (by rintro ⟨hz1, hz2, hz3, hz4, hz5, hz6⟩; omega)])), st72.bare⟩
      ·have h68 := decide_eq_true h68p
       have hTk : ∀ j, j < r.tasks.length → lA r j := by rw [show k = r.tasks.length by omega] at hT; exact hT
       refine rd st50 h53_ [] [(2, .bool (!decide (r.state = 0)))] [qb 0 rfl 6, qb 0 rfl 0, qc Tryz.func157 rfl (fun W s b => zD W (bA hc s.below) hS aD), qk h68, qb 0 rfl 6, .o] aE aE fun f75 W76 h75_ st77 hb78 => ?_
       rcases Decidable.em (r.state = 0) with h79p | h79p
       ·have h79 := gS h79p
        refine wr (aL Tryz.results89 ((h75_.at 2).trans (congrArg Value.bool h79)) ?_)
        exact ⟨(fB (by unfold dK; rw [cQ (by rintro ⟨hz1, hz2, hz3, hz4, hz5, hz6⟩; omega)])), st77.bare⟩
       ·have h79 := gR h79p
        refine wr (aL Tryz.results89 ((h75_.at 2).trans (congrArg Value.bool h79)) ?_)
        exact ⟨(fB (by unfold dK; rw [gG ⟨by omega, by omega, by omega, hTk, by omega, by omega⟩])), st77.bare⟩
  ·have h11 := gR h11p
   refine rc st4 19 Ag.nil.put.put.put [] [(23, .bool true)] [qb 0 rfl 0, qc Tryz.func43 rfl (fun W s b => cN W r.id 1 9999), qk h10, qb 0 rfl 1, qc Tryz.func155 rfl (fun W s b => uY W (show Shape.C _ [I r.plan.prio, I r.plan.most, I r.plan.wait, I r.plan.tasks, v9_0] r.plan _ from ⟨_, _, rfl, eS, (h9_0.below s.below), rfl⟩)), qk h11] aE fun f80 W81 h80_ st82 hb83 => (aB (fH (h80_.at 23) rfl (wp_seq (aA (sg (aC (v := .bool false) rfl (aB (wr (aL Tryz.results89 rfl ?_)))))))))
   exact ⟨(fB (by unfold dK; rw [cQ (by rintro ⟨hz1, hz2, hz3, hz4, hz5, hz6⟩; omega)])), st82.bare⟩
 ·have h10p := cJ (aW h10)
  refine rc st4 19 Ag.nil.put.put.put [] [(23, .bool true)] [qb 0 rfl 0, qc Tryz.func43 rfl (fun W s b => cN W r.id 1 9999), qk h10] aE fun f86 W87 h86_ st88 hb89 => (aB (fH (h86_.at 23) rfl (wp_seq (aA (sg (aC (v := .bool false) rfl (aB (wr (aL Tryz.results89 rfl ?_)))))))))
  exact ⟨(fB (by unfold dK; rw [cQ (by rintro ⟨hz1, hz2, hz3, hz4, hz5, hz6⟩; omega)])), st88.bare⟩
def mkL {α : Type} (f : α → Int → α) (n : α → Nat) : List α → Int → List α
 | [], _ => []
 | x :: xs, k => f x k :: mkL f n xs (k + (n x : Nat))
def cL {α : Type} (n : α → Nat) (xs : List α) : Nat := (xs.map n).sum
section
variable {α : Type} {f : α → Int → α} {n : α → Nat}
theorem eQ : ∀ (xs : List α) (k : Int), (mkL f n xs k).length = xs.length
 | [], _ => rfl
 | x :: xs, k => by simp [mkL, eQ xs]
theorem cL_take (n : α → Nat) (xs : List α) (i : Nat) (h : i < xs.length) : cL n (xs.take (i + 1)) = cL n (xs.take i) + n xs[i] := pN n xs i h
theorem eZ (n : α → Nat) (xs : List α) (i : Nat) : cL n (xs.take i) ≤ cL n xs := iO n xs i
theorem jL (n : α → Nat) (xs : List α) (i : Nat) (h : i = xs.length) : cL n (xs.take i) = cL n xs := by subst h; rw [List.take_length]
theorem pH : ∀ (xs ys : List α) (k : Int), mkL f n (xs ++ ys) k = mkL f n xs k ++ mkL f n ys (k + (cL n xs : Nat))
 | [], ys, k => by simp [mkL, cL]
 | x :: xs, ys, k => by
  simp only [List.cons_append, mkL, pH xs ys, cL, List.map_cons, List.sum_cons]
  congr 3
  push_cast; omega
theorem mk_get? {xs : List α} {k : Int} {i : Nat} (h : i < xs.length) : (mkL f n (xs.take i) k ++ xs.drop i)[i]? = some xs[i] := by
 have hl : (mkL f n (xs.take i) k).length = i := by rw [eQ, List.length_take]; omega
 rw [List.getElem?_append_right aD, hl, Nat.sub_self, List.getElem?_drop, Nat.add_zero, List.getElem?_eq_getElem h]
theorem mk_step {xs : List α} {k K : Int} {i : Nat} (h : i < xs.length) (hK : K = k + (cL n (xs.take i) : Nat)) : (mkL f n (xs.take i) k ++ xs.drop i).set i (f xs[i] K) = mkL f n (xs.take (i + 1)) k ++ xs.drop (i + 1) := by
 have hl : (mkL f n (xs.take i) k).length = i := by rw [eQ, List.length_take]; omega
 rw [List.set_append_right _ _ aD, hl, Nat.sub_self, List.drop_eq_getElem_cons h, List.set_cons_zero, List.take_succ_eq_append_getElem h, pH, List.append_assoc]
 subst hK
 rfl
theorem pG {xs : List α} {k : Int} {i : Nat} (h : i = xs.length) : mkL f n (xs.take i) k ++ xs.drop i = mkL f n xs k := by subst h; simp
theorem mk_get {xs : List α} {k : Int} {i : Nat} (h : i < xs.length) : (mkL f n xs k)[i]? = some (f xs[i] (k + (cL n (xs.take i) : Nat))) := by
 have e : xs = xs.take i ++ xs.drop i := by simp
 have hl : (mkL f n (xs.take i) k).length = i := by rw [eQ, List.length_take]; omega
 conv => lhs; rw [e, pH]
 rw [List.getElem?_append_right aD, hl, Nat.sub_self, List.drop_eq_getElem_cons h]
 rfl
theorem idxm [Shape α] {w : World} {v : Value} {xs : List α} {fp : List Nat} {k K : Int} (hs : Sl w v (mkL f n xs k) fp) {i : Nat} (hi : i < xs.length) (hK : K = k + (cL n (xs.take i) : Nat)) : ∃ b o cs f1, PA v (Shape.size α) i b o ∧ w.rangeAt b o cs ∧ Shape.C w cs (f xs[i] K) f1 ∧ ∀ c ∈ b :: f1, c ∈ fp := by
 obtain ⟨b, o, cs, f1, h1, h2, h3, h4⟩ := idx hs (i := i) (by rw [eQ]; exact hi)
 refine ⟨b, o, cs, f1, h1, h2, ?_, h4⟩
 have := mk_get (f := f) (n := n) (xs := xs) (k := k) hi
 obtain ⟨hl, he⟩ := List.getElem?_eq_some_iff.1 this
 rw [he, ← hK] at h3
 exact h3
end
section
variable {α : Type} {f : α → Int → α} {n : α → Nat}
theorem gI (n : α → Nat) {xs : List α} {i : Nat} {y : α} (h : xs[i]? = some y) : cL n (xs.take (i + 1)) = cL n (xs.take i) + n y := by
 obtain ⟨hl, rfl⟩ := List.getElem?_eq_some_iff.1 h
 exact cL_take n xs i hl
theorem mK {xs : List α} {k : Int} {i : Nat} {y : α} (h : xs[i]? = some y) : (mkL f n (xs.take i) k ++ xs.drop i)[i]? = some y := by
 obtain ⟨hl, rfl⟩ := List.getElem?_eq_some_iff.1 h
 exact mk_get? hl
theorem kQ {xs : List α} {k K : Int} {i : Nat} {y : α} (h : xs[i]? = some y) (hK : K = k + (cL n (xs.take i) : Nat)) : (mkL f n (xs.take i) k ++ xs.drop i).set i (f y K) = mkL f n (xs.take (i + 1)) k ++ xs.drop (i + 1) := by
 obtain ⟨hl, rfl⟩ := List.getElem?_eq_some_iff.1 h
 exact mk_step hl hK
theorem vX [Shape α] {w : World} {v : Value} {xs : List α} {fp : List Nat} {k K : Int} {y : α} (hs : Sl w v (mkL f n xs k) fp) {i : Nat} (hi : xs[i]? = some y) (hK : K = k + (cL n (xs.take i) : Nat)) : ∃ b o cs f1, PA v (Shape.size α) i b o ∧ w.rangeAt b o cs ∧ Shape.C w cs (f y K) f1 ∧ ∀ c ∈ b :: f1, c ∈ fp := by
 obtain ⟨hl, rfl⟩ := List.getElem?_eq_some_iff.1 hi
 exact idxm hs hl hK
end
theorem eH {α : Type} {xs : List α} {i : Nat} (h : i < xs.length) : ∃ y, xs[i]? = some y := ⟨_, List.getElem?_eq_getElem h⟩
def Bd (x : Int) (r : Nat) : Prop := 0 ≤ x ∧ x + r ≤ 4611686018427387904
theorem Bd.up {x : Int} {r : Nat} (h : Bd x (1 + r)) : Bd (x + 1) r := by unfold Bd at *; omega
theorem Bd.upc {x : Int} {c r : Nat} (h : Bd x (c + r)) : Bd (x + (c : Nat)) r := by unfold Bd at *; omega
theorem Bd.i64 {x : Int} {r : Nat} (h : Bd x r) : I64 x := by unfold Bd I64 at *; omega
theorem Bd.lo {x : Int} {r : Nat} (h : Bd x r) : 0 ≤ x := h.1
theorem Bd.hi {x : Int} {c r : Nat} (h : Bd x (c + r)) : x + (c : Nat) ≤ 4611686018427387904 := by unfold Bd at *; omega
def neI {α : Type} (_ : α) : Nat := 1
def mkI (_ : Int) (k : Int) : Int := k
def bL (x : Edge) : Nat := 2
def iJ (x : Edge) (k : Int) : Edge := ⟨k, k + 1⟩

def aS (x : Entry) : Nat := 4
def eK (x : Entry) (k : Int) : Entry := ⟨k, k + 1, (k + 1) + 1, ((k + 1) + 1) + 1⟩

def cK (x : Task) : Nat := 4
def iI (x : Task) (k : Int) : Task := ⟨k, k + 1, (k + 1) + 1, ((k + 1) + 1) + 1⟩

def cV (x : Run) : Nat := 6 + cL bL x.plan.edges + cL cK x.tasks
def jN (x : Run) (k : Int) : Run := ⟨k, ⟨k + 1, (k + 1) + 1, ((k + 1) + 1) + 1, (((k + 1) + 1) + 1) + 1, mkL iJ bL x.plan.edges (((((k + 1) + 1) + 1) + 1) + 1)⟩, (((((k + 1) + 1) + 1) + 1) + 1) + (cL bL x.plan.edges : Nat), mkL iI cK x.tasks (((((((k + 1) + 1) + 1) + 1) + 1) + (cL bL x.plan.edges : Nat)) + 1)⟩

def dD (x : Yard) : Nat := cL (cL aS) x.shelf + cL cV x.runs
def qM (x : Yard) (k : Int) : Yard := ⟨x.now, x.seq, mkL (mkL eK aS) (cL aS) x.shelf k, mkL jN cV x.runs (k + (cL (cL aS) x.shelf : Nat))⟩

def cC (x : Reply) : Nat := 4
def iA (x : Reply) (k : Int) : Reply := ⟨k, k + 1, (k + 1) + 1, ((k + 1) + 1) + 1⟩

def dH (x : Crew) : Nat := dD x.yard + cL cC x.holds
def qN (x : Crew) (k : Int) : Crew := ⟨qM x.yard k, mkL iA cC x.holds (k + (dD x.yard : Nat)), x.turns, x.did⟩

/-! ### How many numbers the marks take -/
theorem uO {α : Type} {n f : α → Nat} (h : ∀ x, n x ≤ 16 * (1 + f x)) : ∀ xs : List α, cL n xs ≤ 16 * wtL f xs
 | [] => by simp [cL, wtL]
 | x :: xs => by
  have h1 := h x
  have h2 := uO h xs
  simp only [cL, wtL, List.map_cons, List.sum_cons, List.length_cons] at *
  omega
theorem oJ {α : Type} {n : α → Nat} {c : Nat} (h : ∀ x, n x ≤ c) : ∀ xs : List α, cL n xs ≤ c * xs.length
 | [] => by simp [cL]
 | x :: xs => by
  have h1 := h x
  have h2 := oJ h xs
  simp only [cL, List.map_cons, List.sum_cons, List.length_cons, Nat.mul_add] at *
  omega

theorem cb_EdgeS (xs : List Edge) : cL bL xs ≤ 16 * xs.length := Nat.le_trans (oJ (n := bL) (c := 16) (fun y => by simp [bL]) xs) (Nat.le_refl _)
theorem cb_EntryS (xs : List Entry) : cL aS xs ≤ 16 * xs.length := Nat.le_trans (oJ (n := aS) (c := 16) (fun y => by simp [aS]) xs) (Nat.le_refl _)
theorem cb_TaskS (xs : List Task) : cL cK xs ≤ 16 * xs.length := Nat.le_trans (oJ (n := cK) (c := 16) (fun y => by simp [cK]) xs) (Nat.le_refl _)
theorem nb_Run (x : Run) : cV x ≤ 16 * (1 + x.wt) := by
 have h0 := cb_EdgeS x.plan.edges; have h1 := cb_TaskS x.tasks; simp only [cV, Plan.wt, Run.wt, Yard.wt, Deed.wt, Note.wt, File.wt, Disk.wt, Engine.wt, WorldD.wt, ActD.wt, Span.wt, Crew.wt] at *; omega
theorem cb_RunS (xs : List Run) : cL cV xs ≤ 16 * (wtL (fun y : Run => y.wt) xs) := uO (n := cV) (f := fun y : Run => y.wt) (fun y => nb_Run y) xs
theorem cb_EntrySS (xs : List (List Entry)) : cL (cL aS) xs ≤ 16 * (wtL (fun y : List Entry => y.length) xs) := uO (n := cL aS) (f := fun y : List Entry => y.length) (fun y => by have := cb_EntryS y; omega) xs
theorem nt_Yard (x : Yard) : dD x ≤ 16 * x.wt := by
 have h2 := cb_EntrySS x.shelf; have h3 := cb_RunS x.runs; unfold dD; have hw : x.wt = (wtL (fun y : List Entry => y.length) x.shelf) + (wtL (fun y : Run => y.wt) x.runs) := rfl; omega
theorem cb_ReplyS (xs : List Reply) : cL cC xs ≤ 16 * xs.length := Nat.le_trans (oJ (n := cC) (c := 16) (fun y => by simp [cC]) xs) (Nat.le_refl _)
theorem cb_IntS (xs : List Int) : cL neI xs ≤ 16 * xs.length := Nat.le_trans (oJ (n := neI) (c := 16) (fun y => by simp [neI]) xs) (Nat.le_refl _)
theorem qJ (x : Crew) : dH x ≤ 16 * x.wt := by
 have h0 := nt_Yard x.yard; have h1 := cb_ReplyS x.holds; unfold dH; have hw : x.wt = x.yard.wt + x.holds.length := rfl; omega
def kR (t : Task) : Task := ⟨6, t.need, t.try_, 0⟩
def qP (but : Int) (k : Nat) (t : Task) : Task := if (k : Int) = but ∨ t.state = 4 then t else kR t
def pJ (ts : List Task) (but : Int) : List Task := ts.mapIdx (fun j t => qP but j t)
theorem leaveT_len (ts : List Task) (but : Int) : (pJ ts but).length = ts.length := by simp [pJ]
def xC (r : Run) (i : Nat) (t : Task) : Run :=
 if t.try_ < r.plan.most then ⟨r.id, r.plan, r.state, r.tasks.set i ⟨2, t.need, t.try_, 0⟩⟩
 else ⟨r.id, r.plan, 3, pJ (r.tasks.set i ⟨5, t.need, t.try_, 0⟩) i⟩
def jB (r : Run) (i : Nat) : Run := match r.tasks[i]? with | some t => xC r i t | none => r
theorem failsR_at {r : Run} {i : Nat} {t : Task} (h : r.tasks[i]? = some t) : jB r i = xC r i t := by unfold jB; rw [h]
theorem hQ (ts : List Task) (s : Int) : cM ts s = (ts.countP (fun t => decide (t.state = s)) : Nat) := by unfold cM; rw [List.countP_eq_length_filter]
theorem yM {ts : List Task} {s : Int} {t : Task} (h : t ∈ ts) (hs : t.state = s) : 0 < cM ts s := by
 rw [hQ]
 have := List.countP_pos_iff (p := fun t : Task => decide (t.state = s)) (l := ts) |>.2 ⟨t, h, by simpa using hs⟩
 omega
theorem sB {ts : List Task} {s : Int} (h : ∀ t ∈ ts, ¬ t.state = s) : cM ts s = 0 := by
 rw [hQ, List.countP_eq_zero.2 (by intro t ht; simpa using h t ht)]; rfl
theorem wJ {ts : List Task} {s : Int} (h : cM ts s = 0) : ∀ t ∈ ts, ¬ t.state = s := fun t ht hs => by have := yM ht hs; omega
theorem xF {ts : List Task} {s : Int} {t : Task} (h : t ∈ ts) (hs : ¬ t.state = s) : ¬ cM ts s = ts.length := by
 rw [hQ]
 intro he
 have := List.countP_eq_length (p := fun t : Task => decide (t.state = s)) (l := ts) |>.1 aD t h
 exact hs (by simpa using this)
theorem cntI_map {ts : List Task} {f : Task → Task} {s : Int} (h : ∀ t ∈ ts, ((f t).state = s ↔ t.state = s)) : cM (ts.map f) s = cM ts s := by
 rw [hQ, hQ, List.countP_map]
 congr 1
 apply List.countP_congr
 intro t ht
 simpa using h t ht
theorem uL {ts : List Task} {i : Nat} (h : i < ts.length) (x : Task) (s : Int) : cM (ts.set i x) s = cM ts s - (if ts[i].state = s then 1 else 0) + (if x.state = s then 1 else 0) := by
 rw [hQ, hQ, List.countP_set h]
 have hpos : ts[i].state = s → 0 < ts.countP (fun t => decide (t.state = s)) := fun e => List.countP_pos_iff.2 ⟨ts[i], List.getElem_mem h, by simpa using e⟩
 simp only [decide_eq_true_eq]
 by_cases h1 : ts[i].state = s
 ·have := hpos h1
  rw [if_pos h1, if_pos h1]
  by_cases h2 : x.state = s
  ·rw [if_pos h2, if_pos h2]; omega
  ·rw [if_neg h2, if_neg h2]; omega
 ·rw [if_neg h1, if_neg h1]
  by_cases h2 : x.state = s
  ·rw [if_pos h2, if_pos h2]; omega
  ·rw [if_neg h2, if_neg h2]; omega
structure RunIs (r : Run) : Prop where
 id : 1 ≤ r.id ∧ r.id ≤ 9999
 plan : cX r.plan = 0
 len : (r.tasks.length : Int) = r.plan.tasks
 task : ∀ k, k < r.tasks.length → lA r k
 state : r.state = dM r.tasks
 ne : ¬ r.state = 0
theorem runIs {r : Run} : dK r = true ↔ RunIs r := by
 unfold dK
 rw [pB_iff]
 exact ⟨fun ⟨a, b, c, d, e, f⟩ => ⟨a, b, c, d, e, f⟩, fun h => ⟨h.id, h.plan, h.len, h.task, h.state, h.ne⟩⟩
theorem RunIs.live {r : Run} (h : RunIs r) {t : Task} (ht : t ∈ r.tasks) (h3 : t.state = 3) : r.state = 1 ∧ cM r.tasks 5 = 0 ∧ cM r.tasks 6 = 0 := by
 have hs := h.state
 have hn := h.ne
 have c3 := yM ht h3
 have c4 := xF (s := 4) ht aD
 have p1 := dV r.tasks 1
 have p2 := dV r.tasks 2
 rw [hs] at hn
 rw [hs]
 unfold dM at hn ⊢
 rw [if_neg c4, if_neg aD, if_neg aD] at hn ⊢
 by_cases h1 : cM r.tasks 5 = 0 ∧ cM r.tasks 6 = 0
 ·rw [if_pos h1]; exact ⟨rfl, h1.1, h1.2⟩
 ·rw [if_neg h1] at hn; exact absurd rfl hn
theorem RunIs.none5 {r : Run} (h : RunIs r) {t : Task} (ht : t ∈ r.tasks) (h3 : t.state = 3) : ∀ u ∈ r.tasks, ¬ u.state = 5 ∧ ¬ u.state = 6 := fun u hu => ⟨wJ (h.live ht h3).2.1 u hu, wJ (h.live ht h3).2.2 u hu⟩
def kF (t : Task) : Task := if t.state = 4 ∨ t.state = 5 then t else kR t
def gQ (ts : List Task) : List Task := ts.map kF
theorem leave_same {ts : List Task} {i : Nat} {x : Task} (hi : i < ts.length) (hx : x.state = 5) (h : ∀ u ∈ ts, ¬ u.state = 5) : pJ (ts.set i x) (i : Int) = gQ (ts.set i x) := by
 apply List.ext_getElem?
 intro k
 unfold pJ gQ
 rw [List.getElem?_mapIdx, List.getElem?_map, List.getElem?_set]
 by_cases e : i = k
 ·subst e
  simp [hi, qP, kF, hx]
 ·rw [if_neg e]
  cases hk : ts[k]? with
  | none => rfl
  | some u =>
   have h5 := h u (List.mem_of_getElem? hk)
   have e' : ¬ (k : Int) = (i : Int) := by omega
   simp [qP, kF, h5, e']
theorem isDone_of {r r' : Run} (h : ∀ k : Nat, (r'.tasks[k]?).map (fun t => decide (t.state = 4)) = (r.tasks[k]?).map (fun t => decide (t.state = 4))) (x : Int) : mN r' x = mN r x := by
 unfold mN
 have := h x.toNat
 cases h1 : r'.tasks[x.toNat]? <;> cases h2 : r.tasks[x.toNat]? <;> simp [h1, h2] at this ⊢
 exact this
theorem vR {r r' : Run} (hp : r'.plan = r.plan) (h : ∀ k : Nat, (r'.tasks[k]?).map (fun t => decide (t.state = 4)) = (r.tasks[k]?).map (fun t => decide (t.state = 4))) (x : Int) : iN r' x = iN r x := by
 unfold iN dU
 rw [hp]
 congr 2
 apply List.filter_congr
 intro b _
 rw [isDone_of h]
theorem taskOkT_left {r r' : Run} {need : Int} {t : Task} (hp : r'.plan = r.plan) (h : bU r need t) : bU r' need (kR t) := by
 obtain ⟨h1, h2, h3, _⟩ := h
 refine ⟨⟨by simp [kR], by simp [kR]⟩, h2, by rw [hp]; exact h3, ?_, ?_, ?_, ?_, ?_⟩ <;> simp [kR]
theorem pT {r r' : Run} {need : Int} {t : Task} (hp : r'.plan = r.plan) (h : bU r need t) : bU r' need t := by
 unfold bU at h ⊢
 rw [hp]; exact h
theorem RunIs.fails {r : Run} (h : RunIs r) {i : Nat} {t : Task} (ht : r.tasks[i]? = some t) (h3 : t.state = 3) : RunIs (jB r i) := by
 obtain ⟨hi, rfl⟩ := List.getElem?_eq_some_iff.1 ht
 have hm : r.tasks[i] ∈ r.tasks := List.getElem_mem hi
 have hlive := h.live hm h3
 have hn5 := h.none5 hm h3
 have htk := h.task i hi hi
 obtain ⟨t1, t2, t3, t4, t5, t6, t7, t8⟩ := htk
 have t8' := t8 (.inl h3)
 rw [failsR_at ht]
 unfold xC
 split
 ·next hlt =>
  refine ⟨h.id, h.plan, by show ((r.tasks.set i _).length : Int) = _; rw [List.length_set]; exact h.len, ?_, ?_, by show ¬ r.state = 0; omega⟩
  ·intro k hk hk'
   have hk2 : k < r.tasks.length := by simpa using hk
   rw [vR (r := r) (r' := ⟨r.id, r.plan, r.state, r.tasks.set i ⟨2, r.tasks[i].need, r.tasks[i].try_, 0⟩⟩) rfl (fun j => by
    show ((r.tasks.set i _)[j]?).map _ = _
    rw [List.getElem?_set]
    by_cases e : i = j
    ·subst e; simp [hi, h3]
    ·rw [if_neg e])]
   show bU _ _ ((r.tasks.set i _)[k]'hk')
   rw [List.getElem_set]
   split
   ·next e =>
    subst e
    refine ⟨⟨by show (1 : Int) ≤ 2; omega, by show (2 : Int) ≤ 6; omega⟩, t2, t3, ?_, fun _ => rfl, ?_, fun _ => ⟨t8'.1, hlt⟩, ?_⟩
    ·intro e; exact absurd (show (2 : Int) = 3 from e) aD
    ·intro e; exact absurd (show (2 : Int) = 1 from e) aD
    ·rintro (e | e | e)
     ·exact absurd (show (2 : Int) = 3 from e) aD
     ·exact absurd (show (2 : Int) = 4 from e) aD
     ·exact absurd (show (2 : Int) = 5 from e) aD
   ·exact pT rfl (h.task k hk2 hk2)
  ·show r.state = dM (r.tasks.set i _)
   have hmem : (⟨2, r.tasks[i].need, r.tasks[i].try_, 0⟩ : Task) ∈ r.tasks.set i ⟨2, r.tasks[i].need, r.tasks[i].try_, 0⟩ := List.mem_set hi _
   have c4 := xF (s := 4) hmem (by show ¬ (2 : Int) = 4; omega)
   have c5 : cM (r.tasks.set i ⟨2, r.tasks[i].need, r.tasks[i].try_, 0⟩) 5 = 0 := by rw [uL hi, h3, hlive.2.1]; rfl
   have c6 : cM (r.tasks.set i ⟨2, r.tasks[i].need, r.tasks[i].try_, 0⟩) 6 = 0 := by rw [uL hi, h3, hlive.2.2]; rfl
   unfold dM
   rw [if_neg c4, if_neg (by rw [c5]; omega), if_neg (by rw [c6]; omega), if_pos ⟨c5, c6⟩]
   exact hlive.1
 ·next hge =>
  rw [leave_same hi rfl (fun u hu => (hn5 u hu).1)]
  have hset : ∀ j, (gQ (r.tasks.set i ⟨5, r.tasks[i].need, r.tasks[i].try_, 0⟩))[j]? = (if i = j then some ⟨5, r.tasks[i].need, r.tasks[i].try_, 0⟩ else (r.tasks[j]?).map kF) := by
   intro j
   unfold gQ
   rw [List.getElem?_map, List.getElem?_set]
   by_cases e : i = j
   ·subst e; simp [hi, kF]
   ·rw [if_neg e, if_neg e]
  have hlen : (gQ (r.tasks.set i ⟨5, r.tasks[i].need, r.tasks[i].try_, 0⟩)).length = r.tasks.length := by unfold gQ; simp
  refine ⟨h.id, h.plan, by show ((gQ _).length : Int) = _; rw [hlen]; exact h.len, ?_, ?_, by show ¬ (3 : Int) = 0; omega⟩
  ·intro k hk hk'
   have hk2 : k < r.tasks.length := by rw [← hlen]; exact hk
   rw [vR (r := r) (r' := ⟨r.id, r.plan, 3, gQ (r.tasks.set i ⟨5, r.tasks[i].need, r.tasks[i].try_, 0⟩)⟩) rfl (fun j => by
    show ((gQ _)[j]?).map _ = _
    rw [hset j]
    by_cases e : i = j
    ·subst e; simp [hi, h3]
    ·rw [if_neg e]
     cases hj : r.tasks[j]? with
     | none => rfl
     | some u =>
      simp only [Option.map_some, kF]
      split
      ·rfl
      ·next hne => simp [kR]; intro e4; exact hne (.inl e4))]
   have hg : (gQ (r.tasks.set i ⟨5, r.tasks[i].need, r.tasks[i].try_, 0⟩))[k]? = some ((gQ (r.tasks.set i ⟨5, r.tasks[i].need, r.tasks[i].try_, 0⟩))[k]'hk') := List.getElem?_eq_getElem hk'
   rw [hset k] at hg
   show bU _ _ ((gQ (r.tasks.set i _))[k]'hk')
   by_cases e : i = k
   ·rw [if_pos e] at hg
    have := Option.some.inj hg
    rw [← this]
    subst e
    refine ⟨⟨by show (1 : Int) ≤ 5; omega, by show (5 : Int) ≤ 6; omega⟩, t2, t3, ?_, fun _ => rfl, ?_, ?_, fun _ => t8'⟩
    ·intro e; exact absurd (show (5 : Int) = 3 from e) aD
    ·intro e; exact absurd (show (5 : Int) = 1 from e) aD
    ·intro e; exact absurd (show (5 : Int) = 2 from e) aD
   ·rw [if_neg e, List.getElem?_eq_getElem hk2, Option.map_some] at hg
    have := Option.some.inj hg
    rw [← this]
    unfold kF
    split
    ·exact pT rfl (h.task k hk2 hk2)
    ·exact taskOkT_left rfl (h.task k hk2 hk2)
  ·show (3 : Int) = dM (gQ _)
   have hst : ∀ s : Int, s = 1 ∨ s = 2 ∨ s = 3 → cM (gQ (r.tasks.set i ⟨5, r.tasks[i].need, r.tasks[i].try_, 0⟩)) s = 0 := by
    intro s hs
    apply sB
    intro u hu e
    unfold gQ at hu
    obtain ⟨v, _, rfl⟩ := List.mem_map.1 hu
    unfold kF at e
    split at e
    ·next hc => omega
    ·have : (6 : Int) = s := e
     omega
   have c5 : cM (gQ (r.tasks.set i ⟨5, r.tasks[i].need, r.tasks[i].try_, 0⟩)) 5 = 1 := by
    unfold gQ
    rw [cntI_map (fun u _ => by
     unfold kF
     split
     ·exact Iff.rfl
     ·next hc =>
      simp only [not_or] at hc
      exact ⟨fun e => absurd (show (6 : Int) = 5 from e) aD, fun e => absurd e hc.2⟩), uL hi, h3, hlive.2.1]
    rfl
   have c4 : ¬ cM (gQ (r.tasks.set i ⟨5, r.tasks[i].need, r.tasks[i].try_, 0⟩)) 4 = (gQ (r.tasks.set i ⟨5, r.tasks[i].need, r.tasks[i].try_, 0⟩)).length := by
    apply xF (t := ⟨5, r.tasks[i].need, r.tasks[i].try_, 0⟩)
    ·exact List.mem_of_getElem? (i := i) (by rw [hset i, if_pos rfl])
    ·show ¬ (5 : Int) = 4
     omega
   unfold dM
   rw [if_neg c4, if_pos ⟨c5, by rw [hst 1 (.inl rfl), hst 2 (.inr (.inl rfl)), hst 3 (.inr (.inr rfl))]; rfl⟩]
theorem failsR_keeps (r : Run) (i : Nat) : (jB r i).id = r.id ∧ (jB r i).plan = r.plan ∧ (jB r i).tasks.length = r.tasks.length ∧ ∀ (j : Nat) (t : Task), r.tasks[j]? = some t → ∃ t2, (jB r i).tasks[j]? = some t2 ∧ t2.try_ = t.try_ := by
 unfold jB
 cases hi : r.tasks[i]? with
 | none => exact ⟨rfl, rfl, rfl, fun j t h => ⟨t, h, rfl⟩⟩
 | some u =>
  obtain ⟨hl, rfl⟩ := List.getElem?_eq_some_iff.1 hi
  simp only [xC]
  split
  ·refine ⟨rfl, rfl, by simp, fun j t h => ?_⟩
   show ∃ t2, (r.tasks.set i _)[j]? = some t2 ∧ _
   rw [List.getElem?_set]
   by_cases e : i = j
   ·subst e
    rw [h] at hi
    rw [if_pos rfl, if_pos hl]
    exact ⟨_, rfl, by have := Option.some.inj hi; rw [this]⟩
   ·rw [if_neg e]; exact ⟨t, h, rfl⟩
  ·refine ⟨rfl, rfl, by simp [leaveT_len], fun j t h => ?_⟩
   show ∃ t2, (pJ (r.tasks.set i _) _)[j]? = some t2 ∧ _
   unfold pJ
   rw [List.getElem?_mapIdx, List.getElem?_set]
   have hli : ∀ (b : Int) (k : Nat) (x : Task), (qP b k x).try_ = x.try_ := by intro b k x; unfold qP; split <;> rfl
   by_cases e : i = j
   ·subst e
    rw [h] at hi
    rw [if_pos rfl, if_pos hl]
    exact ⟨_, rfl, by rw [hli]; have := Option.some.inj hi; rw [this]⟩
   ·rw [if_neg e, h]; exact ⟨_, rfl, hli _ _ _⟩
theorem rP : ∀ (C vs : List Value) (o : Nat), o + vs.length ≤ C.length → cG C o vs = C.take o ++ vs ++ C.drop (o + vs.length)
 | C, [], 0, h => by cases C <;> simp [cG]
 | c :: C, v :: vs, 0, h => by
  have := rP C vs 0 (by simp at h ⊢; omega)
  simp [cG] at this ⊢
  rw [this]
 | c :: C, vs, o + 1, h => by
  have := rP C vs o (by simp at h ⊢; omega)
  rw [show o + 1 + vs.length = (o + vs.length) + 1 by omega]
  simp [cG] at this ⊢
  rw [this]
 | [], v :: vs, o, h => by simp at h
 | [], [], o + 1, h => by simp at h
theorem vN {b o l h c s : Nat} (hne : l < c) : sliced (some ⟨b, o, none⟩) l h c s = .slice (some ⟨b, o + l * s, none⟩) (h - l) (c - l) := by
 have : ¬ c = l := by omega
 simp [sliced, this, Addr.add]
section
variable {P : Program} {n : Nat} {f : Nat → Value} {w0 W : World} {rs : List Res} {Q : Exit → Act → World → Prop} {d : Option Tmp} {ty : TypeId} {pos : String} {af : Array Go.Edge} {g : Option (Nat × Bool)} {K : Value → World → Prop} {α : Type} [Shape α]
theorem nC {t t' : TypeId} {x y : Operand} {b o m c l : Nat} {e : Int} (hT : SlOk P t t' α) (hx : ev n f x = .slice (some ⟨b, o, none⟩) m c) (hy : ev n f y = I e) (he : e = l) (hl : l ≤ m) (hne : l < c) (k : K (.slice (some ⟨b, o + l * Shape.size α, none⟩) (m - l) (c - l)) W) : Stp P n ⟨d, .slice t x (some y) none none, ty, pos, af, g⟩ f W Q K := by
 subst he
 have hel : P.elem t = t' := by simp [Program.elem, hT.desc]
 have hu : P.underlying t = some (.slice (P.elem t)) := by rw [hel]; exact hT.desc
 refine Stp.run (v := sliced (some ⟨b, o, none⟩) l m c (Shape.size α)) ?_ (by rw [vN hne]; exact k)
 simp only [execOp, hx, hy, Sem.run_bind, Option.map_none, Option.map_some]
 rw [run_sliceAt_slice (h := hu), run_slice_l (ht := hu) (h0 := by omega) (h1 := by omega), hel, kP hT.size]
 simp
theorem yW {t t' : TypeId} {x y : Operand} {b o m c h : Nat} {e : Int} (hT : SlOk P t t' α) (hx : ev n f x = .slice (some ⟨b, o, none⟩) m c) (hy : ev n f y = I e) (he : e = h) (hl : h ≤ c) (hc : 0 < c) (k : K (.slice (some ⟨b, o, none⟩) h c) W) : Stp P n ⟨d, .slice t x none (some y) none, ty, pos, af, g⟩ f W Q K := by
 subst he
 have hel : P.elem t = t' := by simp [Program.elem, hT.desc]
 have hu : P.underlying t = some (.slice (P.elem t)) := by rw [hel]; exact hT.desc
 refine Stp.run (v := sliced (some ⟨b, o, none⟩) 0 h c (Shape.size α)) ?_ (by rw [vN hc, Nat.zero_mul]; exact k)
 simp only [execOp, hx, hy, Sem.run_bind, Option.map_none, Option.map_some]
 rw [run_sliceAt_slice (h := hu), run_slice_h (ht := hu) (h0 := by omega) (h2 := by omega), hel, kP hT.size]
 simp
theorem stp_xcap {t t' : TypeId} {x : Operand} {ao : Option Addr} {m c : Nat} (hT : SlOk P t t' α) (hx : ev n f x = .slice ao m c) (k : K (I (c : Int)) W) : Stp P n ⟨d, .call { callee := .builtin .cap, args := #[x], argTypes := #[t] }, ty, pos, af, g⟩ f W Q K := by
 refine Stp.run (v := I (c : Int)) ?_ k
 have hr : (Builtin.cap_ #[t] ty #[.slice ao m c]).run P W = .ok (I (c : Int)) W := by
  simp [Builtin.cap_, run_underlying hT.desc, goInt]
 simp [execOp, hx, resolve, invoke, builtin, Sem.run_bind, hr]
theorem run_copyK (w : World) (dT sT ty elem : TypeId) (b o dLen dCap sz : Nat) (a : Addr) (sLen sCap : Nat) (cs : List Value)
  (hu : P.underlying dT = some (.slice elem)) (hs : (P.info? elem).map (·.size) = some sz) (hn : cs.length = Nat.min sLen dLen * sz)
  (hsrc : ∀ j v, cs[j]? = some v → w.cell? (a.add j) = some v) (hc : ∀ j, j < cs.length → (w.cell? ⟨b, o + j, none⟩).isSome = true) (hf : ∀ j, j < cs.length → w.frozen? ⟨b, o + j, none⟩ = false) (h1 : ∀ v ∈ cs, v.oneCell' = true) :
  (Builtin.copy_ #[dT, sT] ty #[.slice (some ⟨b, o, none⟩) dLen dCap, .slice (some a) sLen sCap]).run P w = .ok (goInt (Nat.min sLen dLen)) (w.setCells b o cs) := by
 have hl := run_loadCells_list (P := P) w a cs hsrc
 have hst := run_storeCells_cells (P := P) b o cs 0 w (by simpa using hc) (by simpa using hf) h1
 rw [hn] at hl
 cases hq : P.info? elem with
 | none => simp [hq] at hs
 | some i =>
  have hi : i.size = sz := by simpa [hq] using hs
  simp [Builtin.copy_, run_underlying hu, Builtin.lenOf, Builtin.firstCells, sizeOf, typeInfo, hq, hi, hl, hst]
theorem nV {t e : TypeId} {x y : Operand} {b o dl dc sl sc : Nat} {a : Addr} {C cs : List Value} (hT : SlOk P t e α) (hx : ev n f x = .slice (some ⟨b, o, none⟩) dl dc) (hy : ev n f y = .slice (some a) sl sc) (hn : cs.length = Nat.min sl dl * Shape.size α)
  (hsrc : ∀ j v, cs[j]? = some v → W.cell? (a.add j) = some v) (h1 : ∀ v ∈ cs, v.oneCell' = true) (hst : St w0 W (Res.bx b C e :: rs)) (hle : o + cs.length ≤ C.length) (k : ∀ v W', St w0 W' (Res.bx b (cG C o cs) e :: rs) → K v W') :
  Stp P n ⟨d, .call { callee := .builtin .copy, args := #[x, y], argTypes := #[t, t] }, ty, pos, af, g⟩ f W Q K := by
 have hB : W.heap[b]? = some (.cells C.toArray e (0, 0)) := hst.get 0 rfl
 have hr := run_copyK (P := P) W t t ty e b o dl dc _ a sl sc cs hT.desc hT.size hn hsrc (fun j hj => by simp [World.cell?, hB]; omega) (fun j hj => by simp [World.frozen?, hB]) h1
 refine Stp.run (v := goInt (Nat.min sl dl)) (W' := W.setCells b o cs) ?_ (k _ _ (hst.store o cs hle))
 simp only [execOp, resolve, invoke, builtin, Sem.run_bind, Sem.run_pure, Result.andThen_ok, List.map_toArray, List.map_cons, List.map_nil, hx, hy, hr]
theorem stp_appz {t tn e : TypeId} {bytes : Nat} {x y : Operand} {b i c k0 n1 : Nat} {e1 : Int} {C : List Value} (hT : ApOk P t e α bytes) (htn : P.underlying tn = some (.int .i64)) (hx : ev n f x = .slice (some ⟨b, 0, none⟩) i c) (hy : ev n f y = I e1) (he1 : e1 = k0) (hn1 : i + k0 = n1) (hst : St w0 W (Res.bx b C e :: rs))
  (hC : i * Shape.size α ≤ C.length) (h0 : 0 < k0) (hg : c < n1) (h63 : n1 ≤ maxLen) (hby : n1 * bytes ≤ 140737488355328)
  (k : ∀ b2 cap Z W', n1 ≤ cap → cap ≤ maxLen → Z.length = (cap - i) * Shape.size α → Below W.heap.size W W' → St w0 W' (Res.bx b2 (C.take (i * Shape.size α) ++ Z) e :: Res.bx b C e :: rs) → K (.slice (some ⟨b2, 0, none⟩) n1 cap) W') :
  Stp P n ⟨d, .call { callee := .builtin .append, args := #[x, y], argTypes := #[t, tn] }, ty, pos, af, g⟩ f W Q K := by
 subst he1 hn1
 obtain ⟨i0, z, hi, hz, g1, g2, g3⟩ := hT.info
 have hB : W.heap[b]? = some (.cells C.toArray e (0, 0)) := hst.get 0 rfl
 have hpos := hT.pos
 have hold : (Builtin.firstCells i0.size i (.slice (some ⟨b, 0, none⟩) i c)).run P W.drew = .ok (C.take (i * Shape.size α)).toArray W.drew := by
  rw [g1]
  exact run_firstCells_some W.drew (Shape.size α) i ⟨b, 0, none⟩ i c (C.take (i * Shape.size α)) (by rw [List.length_take]; omega) (fun j v hj => by
   rw [List.getElem?_take] at hj
   split at hj
   ·rw [Addr.add_mid]; exact cF (W := W.drew) hB j v hj
   ·cases hj)
 have hfit : Builtin.nextslicecap (i + k0) c * i0.bytes ≤ 281474976710656 := by rw [g2]; exact growslice_fits hg hby
 have hk48 : k0 * i0.bytes ≤ 281474976710656 := by
  rw [g2]
  have : k0 * bytes ≤ (i + k0) * bytes := Nat.mul_le_mul_right _ aD
  omega
 have h := Lib.run_append_grow_zeros (P := P) W t tn ty e i0 z .i64 .i64 hT.desc htn hi hz (some ⟨b, 0, none⟩) i c _ hold k0 h0 aD hg (by unfold maxLen at h63; omega) hk48 hfit
 have hge := grownCap_ge W (i + k0) c e
 have hcm := grownCap_le_maxLen W (i + k0) c e h63
 refine Stp.run (v := .slice (some ⟨W.heap.size, 0, none⟩) (i + k0) (grownCap W (i + k0) c e)) (W' := W.drew.alloc (.cells ((C.take (i * Shape.size α)).toArray ++ Builtin.zeroCells z.cells k0 ++ Builtin.zeroCells z.cells (grownCap W (i + k0) c e - (i + k0))) e))
  (by simp only [execOp, resolve, invoke, builtin, Sem.run_bind, Sem.run_pure, Result.andThen_ok, List.map_toArray, List.map_cons, List.map_nil, hx, hy, h]) ?_
 have hbd : Below W.heap.size W W.drew := (Below.refl _ _).drew
 refine k W.heap.size (grownCap W (i + k0) c e) ((Builtin.zeroCells z.cells k0).toList ++ (Builtin.zeroCells z.cells (grownCap W (i + k0) c e - (i + k0))).toList) _ hge hcm ?_ ⟨rfl, rfl, rfl, by simp, fun j hj => Below.heap_alloc W.drew _ j hj⟩ ?_
 ·rw [List.length_append, Array.length_toList, Array.length_toList, size_zeroCells, size_zeroCells, g3, ← Nat.add_mul]
  congr 1; omega
 ·have h1 : St w0 W.drew (Res.bx b C e :: rs) := by simpa using hst.call (St.of_below hbd)
  have h2 := h1.alloc (C.take (i * Shape.size α) ++ ((Builtin.zeroCells z.cells k0).toList ++ (Builtin.zeroCells z.cells (grownCap W (i + k0) c e - (i + k0))).toList)) e
  have e5 : (C.take (i * Shape.size α) ++ ((Builtin.zeroCells z.cells k0).toList ++ (Builtin.zeroCells z.cells (grownCap W (i + k0) c e - (i + k0))).toList)).toArray = (C.take (i * Shape.size α)).toArray ++ Builtin.zeroCells z.cells k0 ++ Builtin.zeroCells z.cells (grownCap W (i + k0) c e - (i + k0)) := by
   apply Array.toList_inj.1
   simp
  rw [e5] at h2
  exact h2
theorem stp_callx {F : FuncId} {x y : Operand} {v u r : Value} {ats : Array TypeId} (hx : ev n f x = v) (hy : ev n f y = u) (h : (callFunc F #[v, u]).run P W = .ok (.value r) W) (k : K r W) : Stp P n ⟨d, .call { callee := .value (.func F), args := #[x, y], argTypes := ats }, ty, pos, af, g⟩ f W Q K :=
 Stp.run (v := r) (by
  have he : ev n f (.func F) = .func (.func F) #[] #[] := rfl
  simp only [execOp, resolve, invoke, Deferred.ofValue, he, Array.append_empty, Array.empty_append, Sem.run_bind, Sem.run_pure, Result.andThen_ok, List.map_toArray, List.map_cons, List.map_nil, hx, hy, h]) k
end
theorem St.rowOpen {α : Type} [Shape α] {w0 W : World} {rs : List Res} {e : TypeId} {v : Value} {xs : List α} (h : St w0 W (Res.row e v xs [] :: rs)) (hne : 0 < xs.length) :
  ∃ b cap C, v = .slice (some ⟨b, 0, none⟩) xs.length cap ∧ xs.length ≤ cap ∧ cap ≤ maxLen ∧ C.length = cap * Shape.size α ∧ Elems W (C.take (xs.length * Shape.size α)) xs [] ∧ St w0 W (Res.bx b C e :: rs) := by
 obtain ⟨⟨cells, ho, he⟩, _⟩ := h.get 0 rfl
 rcases ho.2 with ⟨rfl, h0⟩ | ⟨g, cap, cur, rfl, _, hg, h1, h2, h3, h4⟩
 ·omega
 ·refine ⟨g, cap, cur.toList, rfl, h1, h2, by rw [Array.length_toList]; exact h3, by rw [h4]; exact he, ?_⟩
  exact h.turn (r' := Res.bx g cur.toList e) rfl rfl rfl (Nat.le_refl _) (fun _ _ _ => rfl) (by show W.heap[g]? = some (.cells cur.toList.toArray e (0, 0)); simpa using hg) (by simp [Res.bx]) (fun b hb => .inl (by simpa [Res.row, Res.bx, Value.ownBlock] using hb))
theorem St.rowShut {α : Type} [Shape α] {w0 W : World} {rs : List Res} {e : TypeId} {b cap m : Nat} {C : List Value} {xs : List α} (h : St w0 W (Res.bx b C e :: rs)) (hm : xs.length = m) (h1 : m ≤ cap) (h2 : cap ≤ maxLen) (h3 : C.length = cap * Shape.size α) (h4 : Elems W (C.take (m * Shape.size α)) xs []) :
  St w0 W (Res.row e (.slice (some ⟨b, 0, none⟩) m cap) xs [] :: rs) := by
 subst hm
 have hB : W.heap[b]? = some (.cells C.toArray e (0, 0)) := h.get 0 rfl
 refine h.turn (r' := Res.row e _ xs []) rfl rfl rfl (Nat.le_refl _) (fun _ _ _ => rfl) ⟨⟨_, ⟨?_, .inr ⟨b, cap, C.toArray, rfl, Nat.zero_le _, hB, h1, h2, by simpa using h3, rfl⟩⟩, h4⟩, by simp⟩ (by simp [Res.row, Value.ownBlock]) (fun c hc => .inl (by simpa [Res.row, Res.bx, Value.ownBlock] using hc))
 rw [List.length_take, h3]
 have := Nat.mul_le_mul_right (Shape.size α) h1
 omega
theorem Elems.parts {α : Type} [Shape α] {W : World} : ∀ {xs : List α} {cells : List Value} (i : Nat), i ≤ xs.length → Elems W cells xs [] → Elems W (cells.take (i * Shape.size α)) (xs.take i) [] ∧ Elems W (cells.drop (i * Shape.size α)) (xs.drop i) []
 | xs, cells, 0, _, h => by simpa using (show Elems W [] ([] : List α) [] ∧ Elems W cells xs [] from ⟨⟨rfl, rfl⟩, h⟩)
 | x :: xs, cells, i + 1, hi, ⟨cs, rest, f1, f2, h1, h2, h3, h4⟩ => by
  have hf := List.append_eq_nil_iff.1 h4.symm
  obtain ⟨rfl, rfl⟩ := hf
  have hl := Shape.len h2
  obtain ⟨p1, p2⟩ := Elems.parts i (by simpa using hi) h3
  subst h1
  have e1 : (cs ++ rest).take ((i + 1) * Shape.size α) = cs ++ rest.take (i * Shape.size α) := by
   rw [Nat.add_mul, Nat.one_mul, Nat.add_comm, ← hl, List.take_length_add_append]
  have e2 : (cs ++ rest).drop ((i + 1) * Shape.size α) = rest.drop (i * Shape.size α) := by
   rw [Nat.add_mul, Nat.one_mul, Nat.add_comm, ← hl, List.drop_length_add_append]
  rw [e1, e2]
  exact ⟨⟨cs, _, [], [], rfl, h2, p1, rfl⟩, p2⟩
 | [], cells, i + 1, hi, _ => by simp at hi
theorem Elems.entry {W W' : World} : ∀ {xs : List Entry} {cells : List Value}, Elems W cells xs [] → Elems W' cells xs []
 | [], _, h => h
 | x :: xs, _, ⟨cs, rest, f1, f2, h1, h2, h3, h4⟩ => by
  have hf := List.append_eq_nil_iff.1 h4.symm
  obtain ⟨rfl, rfl⟩ := hf
  exact ⟨cs, rest, [], [], h1, h2, Elems.entry h3, rfl⟩
theorem uG (D : List Value) (a m : Nat) (h : a + 4 + m ≤ D.length) : ∃ B4 Bm T, D = D.take a ++ B4 ++ Bm ++ T ∧ B4.length = 4 ∧ Bm.length = m ∧ (D.take a).length = a := by
 refine ⟨(D.drop a).take 4, ((D.drop a).drop 4).take m, ((D.drop a).drop 4).drop m, ?_, by rw [List.length_take, List.length_drop]; omega, by rw [List.length_take, List.length_drop, List.length_drop]; omega, by rw [List.length_take]; omega⟩
 rw [List.append_assoc, List.append_assoc, List.take_append_drop, List.take_append_drop, List.take_append_drop]
theorem ins_in {D Y M : List Value} {a : Nat} (hY : Y.length = 4) (h : a + 4 + M.length ≤ D.length) : ∃ T, cG (cG D (a + 4) M) a Y = D.take a ++ Y ++ M ++ T := by
 obtain ⟨B4, Bm, T, hD, h4, hm, ha⟩ := uG D a M.length h
 refine ⟨T, ?_⟩
 have e1 : cG D (a + 4) M = D.take a ++ B4 ++ M ++ T := by
  have := iL (D.take a ++ B4) Bm T M 0 aD
  rw [List.length_append, ha, h4, Nat.add_zero, iM _ _ hm.symm, ← hD] at this
  exact this
 rw [e1]
 have := iL (D.take a) B4 (M ++ T) Y 0 aD
 rw [ha, Nat.add_zero, iM _ _ aD] at this
 simpa [List.append_assoc] using this
theorem ins_new {D Y M : List Value} {a : Nat} (hY : Y.length = 4) (h : a + 4 + M.length ≤ D.length) : ∃ T, cG (cG D a Y) (a + 4) M = D.take a ++ Y ++ M ++ T := by
 obtain ⟨B4, Bm, T, hD, h4, hm, ha⟩ := uG D a M.length h
 refine ⟨T, ?_⟩
 have e1 : cG D a Y = D.take a ++ Y ++ Bm ++ T := by
  have := iL (D.take a) B4 (Bm ++ T) Y 0 aD
  rw [ha, Nat.add_zero, iM _ _ aD] at this
  rw [show D.take a ++ B4 ++ (Bm ++ T) = D by rw [← List.append_assoc]; exact hD.symm] at this
  simpa [List.append_assoc] using this
 rw [e1]
 have := iL (D.take a ++ Y) Bm T M 0 aD
 rw [List.length_append, ha, hY, Nat.add_zero, iM _ _ hm.symm] at this
 exact this
theorem vW {W W' : World} {xs : List Entry} {y : Entry} {C C2 Y T : List Value} {k : Nat} (hk : k ≤ xs.length) (he : Elems W (C.take (xs.length * 4)) xs []) (hl : xs.length * 4 ≤ C.length) (hY : Elems W' Y [y] []) (hC2 : C2 = C.take (k * 4) ++ Y ++ (C.drop (k * 4)).take ((xs.length - k) * 4) ++ T) :
  Elems W' (C2.take ((xs.length + 1) * 4)) (xs.take k ++ y :: xs.drop k) [] := by
 obtain ⟨p1, p2⟩ := Elems.parts (α := Entry) k hk he
 have hs : Shape.size Entry = 4 := rfl
 rw [hs] at p1 p2
 have hYl : Y.length = 4 := by have := hY.len; rw [hs] at this; simpa using this
 have e1 : (C.take (xs.length * 4)).take (k * 4) = C.take (k * 4) := by rw [List.take_take, Nat.min_eq_left aD]
 have e2 : (C.take (xs.length * 4)).drop (k * 4) = (C.drop (k * 4)).take ((xs.length - k) * 4) := by rw [List.drop_take, Nat.sub_mul]
 rw [e1] at p1
 rw [e2] at p2
 have hlen : (C.take (k * 4) ++ Y ++ (C.drop (k * 4)).take ((xs.length - k) * 4)).length = (xs.length + 1) * 4 := by
  rw [List.length_append, List.length_append, List.length_take, List.length_take, List.length_drop, hYl]; omega
 rw [hC2, ← hlen, List.take_left]
 have h3 := (Elems.append (Elems.append (Elems.entry (W' := W') p1) hY) (Elems.entry (W' := W') p2))
 simpa [List.append_assoc] using h3
end Go.Proofs.YtchnllpegfbleaaGreat
