/-
  A region that draws its order, some operations of which, one behind the other, make memory or write to what is the call's own; the others only look.
  Appending an element with memory of its own, all of which the call owns.
  Pointers that are not nil; functions without results.
  Operations that only read, many at a time: what they lay down is reckoned by the kernel. Theory alone.
  Regions and parts of regions whose operations only read or call, walked at once. Theory alone.
  The laws' copies: what they return is the call's own.
  The laws' measures.
  The laws' comparisons.
  What waits for what: ways along edges, and that a short one is there where there is one. Theory alone.
  The reference's search: what it has met, while it goes on, and in the end. Theory alone.
  Bits of small numbers: or, and, shifts.
  Shifts (a try).
  Bits of numbers that are no Nat by their form.
  What is wrong with a plan. Theory alone.
  The tasks before and behind a task, in order. Theory alone.
-/
import Derived.Lib.QuoteBits
import Derived.Test.YtchnllpegfbleaaGreatQ01
namespace Go.Proofs.YtchnllpegfbleaaGreat
set_option linter.unusedSimpArgs false
set_option linter.unusedVariables false
set_option maxRecDepth 100000
set_option maxHeartbeats 2000000
open Go.RowKit
structure Pq where
 p : (Nat → Value) → Value → Prop
 b : Option Bool
 look : List Nat
 fr : ∀ {f f' : Nat → Value} {v}, (∀ t ∈ look, f t = f' t) → p f v → p f' v
 yld : ∀ {f v}, p f v → yl v = b
def Pq.is (u : Value) (h : yl u = none := by rfl) : Pq := ⟨fun _ v => v = u, none, [], fun _ h => h, fun {_ _} e => by rw [e]; exact h⟩
def Pq.bool (x : Bool) : Pq := ⟨fun _ v => v = .bool x, some x, [], fun _ h => h, fun {_ _} e => by rw [e]; rfl⟩
def Pq.off : Pq := Pq.is undef
def Pq.none : Pq := ⟨fun _ v => yl v = .none, .none, [], fun _ h => h, fun {_ _} e => e⟩
structure Cp (w0 w1 : World) (rc : List Res) where
 p : List Value → World → Prop
 st : ∀ {u W}, p u W → St w0 W rc
 bl : ∀ {u W}, p u W → Below w1.heap.size w1 W
 up : ∀ {u W W'}, p u W → Below W.heap.size W W' → p u W'
theorem St.dropn {w0 W : World} {rs : List Res} (k : Nat) (h : St w0 W rs) : St w0 W (rs.drop k) := h.sub (List.drop_sublist k rs)
def Cp.of {w0 w1 : World} {rc : List Res} {ι : Type} (us : ι → List Value) (R : ι → List Res) (pr : ∀ g W, St w0 W (R g) → St w0 W rc) : Cp w0 w1 rc :=
 ⟨fun u W => ∃ g, u = us g ∧ St w0 W (R g) ∧ Below w1.heap.size w1 W, fun ⟨g, _, h, _⟩ => pr g _ h, fun ⟨_, _, _, h⟩ => h, fun ⟨g, e, h, h2⟩ hb => ⟨g, e, by simpa using h.call (St.of_below hb), h2.trans (hb.mono h2.size)⟩⟩
def Cp.fr {w0 w1 : World} {rc : List Res} {ι : Type} (us : ι → List Value) (R : ι → List Res) : Cp w0 w1 rc :=
 Cp.of us (fun g => R g ++ rc) (fun g W h => by have h2 := h.dropn (R g).length; rwa [List.drop_left] at h2)
theorem cap_ (a : Res) (l t : List Res) : a :: l ++ t = a :: (l ++ t) := rfl
theorem dP (l : List Res) : [] ++ l = l := rfl
theorem ce {a b : Value} {l l' : List Value} (h : a = b) (t : l = l') : a :: l = b :: l' := by rw [h, t]
def uAt (l : List Oper) (f : Nat → Value) (i : Nat) : Value := match dA l i with | some d => f d | none => undef
def yB (l : List Oper) (F : List Pq) (o : Oper) : Bool :=
 match o.guard with
 | none => true
 | some (j, w) => (F.getD j Pq.off).b == some w
def uA (l : List Oper) (F : List Pq) : Bool :=
 (List.range l.length).all (fun i => ((F.getD i Pq.off).look).all (fun t => (List.range l.length).any (fun j => dep l i j && (match dA l j with | some d => Nat.beq d t | none => false))))
def grOk (l : List Oper) (ws : List Nat) (ds : List (List Nat)) (tr : List (List (Nat × Nat))) : Bool :=
 ws.all (fun i => Nat.blt i l.length) && Nat.blt 0 ds.length && (ds.getD 0 []).isEmpty &&
 (List.range ds.length).all (fun s => (ds.getD s []).all (fun j => ws.contains j) && (!ws.all (fun j => (ds.getD s []).contains j) || Nat.beq (s + 1) ds.length) &&
  ws.all (fun i => (ds.getD s []).contains i || ws.any (fun j => dep l i j && !(ds.getD s []).contains j) ||
   (match wix ws i 0 with | some q => (tr.getD q []).any (fun t => Nat.beq t.1 s && Nat.blt t.2 ds.length && ws.all (fun j => (ds.getD t.2 []).contains j == ((ds.getD s []).contains j || Nat.beq j i))) | none => false)))
structure GrOk (l : List Oper) (ws : List Nat) (ds : List (List Nat)) (tr : List (List (Nat × Nat))) : Prop where
 lt : ∀ i, i ∈ ws → i < l.length
 pos : 0 < ds.length
 zero : ds.getD 0 [] = []
 sub : ∀ s, s < ds.length → ∀ j, j ∈ ds.getD s [] → j ∈ ws
 last : ∀ s, s < ds.length → (∀ j, j ∈ ws → j ∈ ds.getD s []) → s + 1 = ds.length
 go : ∀ s i q, s < ds.length → i ∈ ws → wix ws i 0 = some q → i ∉ ds.getD s [] → (∀ j, j ∈ ws → dep l i j = true → j ∈ ds.getD s []) → ∃ s2, (s, s2) ∈ tr.getD q [] ∧ s2 < ds.length ∧ ∀ j, j ∈ ws → (j ∈ ds.getD s2 [] ↔ j ∈ ds.getD s [] ∨ j = i)
theorem GrOk.of {l : List Oper} {ws : List Nat} {ds : List (List Nat)} {tr : List (List (Nat × Nat))} (h : grOk l ws ds tr = true) : GrOk l ws ds tr := by
 unfold grOk at h
 simp only [Bool.and_eq_true, List.all_eq_true, List.mem_range] at h
 obtain ⟨⟨⟨h1, h2⟩, h3⟩, h4⟩ := h
 refine ⟨fun i hi => mS (h1 i hi), mS h2, List.isEmpty_iff.1 h3, fun s hs j hj => by have := (h4 s hs).1.1 j hj; simpa using this, ?_, ?_⟩
 ·intro s hs hall
  have h5 := (h4 s hs).1.2
  have h6 : ws.all (fun j => (ds.getD s []).contains j) = true := by rw [List.all_eq_true]; intro j hj; simpa using hall j hj
  rw [h6] at h5
  exact Nat.eq_of_beq_eq_true (by simpa using h5)
 ·intro s i q hs hi hq hni hd
  have h5 := (h4 s hs).2 i hi
  rw [hq] at h5
  simp only [Bool.or_eq_true] at h5
  rcases h5 with (h5 | h5) | h5
  ·exact absurd (by simpa using h5) hni
  ·rw [List.any_eq_true] at h5
   obtain ⟨j, hj, h6⟩ := h5
   rw [Bool.and_eq_true] at h6
   have := hd j hj h6.1
   have h7 := h6.2
   rw [show (ds.getD s []).contains j = true by simpa using this] at h7
   cases h7
  ·rw [List.any_eq_true] at h5
   obtain ⟨⟨t1, t2⟩, ht, h6⟩ := h5
   simp only [Bool.and_eq_true, List.all_eq_true] at h6
   obtain ⟨⟨h7, h8⟩, h9⟩ := h6
   have e := Nat.eq_of_beq_eq_true h7
   subst e
   refine ⟨t2, ht, mS h8, fun j hj => ?_⟩
   have h10 := h9 j hj
   simp only [beq_iff_eq] at h10
   have e1 : (j ∈ ds.getD t2 []) ↔ (ds.getD t2 []).contains j = true := by simp
   have e2 : (j ∈ ds.getD t1 []) ↔ (ds.getD t1 []).contains j = true := by simp
   rw [e1, e2, h10, Bool.or_eq_true]
   exact or_congr Iff.rfl ⟨fun h => Nat.eq_of_beq_eq_true h, fun h => by rw [h]; exact gB _⟩
section
variable {P : Program} {n : Nat} {w0 w1 : World} {rs : List Res} {Q : Exit → Act → World → Prop}
def AllTr (F : Nat → Nat → Prop) : List (Nat × Nat) → Prop
 | [] => True
 | t :: ts => F t.1 t.2 ∧ AllTr F ts
theorem AllTr.get {F : Nat → Nat → Prop} : ∀ {ts : List (Nat × Nat)}, AllTr F ts → ∀ s s2, (s, s2) ∈ ts → F s s2
 | t :: ts, h, s, s2, hm => by
  rcases List.mem_cons.1 hm with e | hm
  ·rw [← e] at h; exact h.1
  ·exact AllTr.get h.2 s s2 hm
def aC3 (P : Program) (n : Nat) (w0 w1 : World) (rs : List Res) (Q : Exit → Act → World → Prop) (ws : List Nat) (ds : List (List Nat)) (tr : List (List (Nat × Nat))) (C : Nat → Cp w0 w1 rs) (l : List Oper) (F : List Pq) (f0 : Nat → Value) (i : Nat) (o : Oper) (p : Pq) : Prop :=
 match wix ws i 0 with
 | some q => yB l F o = true ∧ AllTr (fun s s2 => ∀ f W, (C s).p ((ds.getD s []).map (uAt l f)) W → (∀ j d, dep l i j = true → dA l j = some d → (F.getD j Pq.off).p f (f d)) → (∀ t, jH l i t = true → f t = f0 t) → Stp P n o f W Q (fun v W' => (C s2).p ((ds.getD s2 []).map (uAt l (gP f o.dst v))) W' ∧ p.p f v)) (tr.getD q [])
 | none => ∀ f W, St w0 W rs → Below w1.heap.size w1 W → (∀ j d, dep l i j = true → dA l j = some d → (F.getD j Pq.off).p f (f d)) → (∀ t, jH l i t = true → f t = f0 t) →
   cond (yB l F o) (Stp P n o f W Q (fun v W' => Below W.heap.size W W' ∧ p.p f v)) (p.p f undef)
def AllG (P : Program) (n : Nat) (w0 w1 : World) (rs : List Res) (Q : Exit → Act → World → Prop) (ws : List Nat) (ds : List (List Nat)) (tr : List (List (Nat × Nat))) (C : Nat → Cp w0 w1 rs) (l : List Oper) (F : List Pq) (f0 : Nat → Value) : Nat → List Oper → List Pq → Prop
 | _, [], [] => True
 | i, o :: os, p :: ps => aC3 P n w0 w1 rs Q ws ds tr C l F f0 i o p ∧ AllG P n w0 w1 rs Q ws ds tr C l F f0 (i + 1) os ps
 | _, _, _ => False
theorem AllG.get {ws : List Nat} {ds : List (List Nat)} {tr : List (List (Nat × Nat))} {C : Nat → Cp w0 w1 rs} {l : List Oper} {F : List Pq} {f0 : Nat → Value} : ∀ {os : List Oper} {ps : List Pq} {k : Nat}, AllG P n w0 w1 rs Q ws ds tr C l F f0 k os ps → ∀ i o, os[i]? = some o → ∃ p, ps[i]? = some p ∧ aC3 P n w0 w1 rs Q ws ds tr C l F f0 (k + i) o p
 | o :: os, p :: ps, k, h, 0, o', hi => by simp at hi; subst hi; exact ⟨p, rfl, h.1⟩
 | o :: os, p :: ps, k, h, i + 1, o', hi => by
  obtain ⟨q, hq, hs⟩ := AllG.get h.2 i o' (by simpa using hi)
  exact ⟨q, by simpa using hq, by rw [← Nat.add_assoc, Nat.add_right_comm]; exact hs⟩
 | [], _, _, _, i, o', hi => by simp at hi
 | o :: os, [], _, h, _, _, _ => h.elim
theorem lookOk_get {l : List Oper} {F : List Pq} (h : uA l F = true) : ∀ i, i < l.length → ∀ t ∈ (F.getD i Pq.off).look, ∃ j, dep l i j = true ∧ dA l j = some t := by
 intro i hi t ht
 unfold uA at h
 rw [List.all_eq_true] at h
 have h1 := h i (by simpa using hi)
 rw [List.all_eq_true] at h1
 have h2 := h1 t ht
 rw [List.any_eq_true] at h2
 obtain ⟨j, _, h3⟩ := h2
 rw [Bool.and_eq_true] at h3
 refine ⟨j, h3.1, ?_⟩
 cases hd : dA l j with
 | none => rw [hd] at h3; exact absurd h3.2 (by simp)
 | some d => rw [hd] at h3; rw [Nat.eq_of_beq_eq_true h3.2]
structure InvG (w0 w1 : World) (rs : List Res) (ws : List Nat) (ds : List (List Nat)) (C : Nat → Cp w0 w1 rs) (l : List Oper) (m : Nat) (F : List Pq) (f0 : Nat → Value) (L : Array Bool) (f : Nat → Value) (W : World) : Prop where
 size : L.size = l.length + m
 tail : ∀ i, l.length ≤ i → i < L.size → L[i]? = some false
 ex : ∃ s, s < ds.length ∧ (∀ i, i ∈ ws → (L[i]? = some true ↔ i ∈ ds.getD s [])) ∧ (C s).p ((ds.getD s []).map (uAt l f)) W
 vals : ∀ i d, i < l.length → L[i]? = some true → dA l i = some d → (F.getD i Pq.off).p f (f d)
 keep : ∀ t, (∀ i, i < l.length → L[i]? = some true → dA l i ≠ some t) → f t = f0 t
 down : ∀ i j, i < l.length → L[i]? = some true → dep l i j = true → L[j]? = some true
theorem any_mainG {ws : List Nat} {ds : List (List Nat)} {tr : List (List (Nat × Nat))} {C : Nat → Cp w0 w1 rs} {l tl : List Oper} {F : List Pq} {f0 : Nat → Value} (ho : OrdOk n l) (hws : GrOk l ws ds tr) (hfx : uA l F = true) (hs : AllG P n w0 w1 rs Q ws ds tr C l F f0 0 l F)
  (ht : ∀ i o, l.length ≤ i → (l ++ tl)[i]? = some o → (∃ j, l.length ≤ j ∧ dep (l ++ tl) i j = true) ∨ ∀ j, j < l.length → dep (l ++ tl) i j = true ∨ ∃ m, j < m ∧ m < l.length ∧ dep l m j = true)
  (fin : ∀ fuel L f W, tl.length ≤ fuel → (∀ i, i < l.length → L[i]? = some true) → InvG w0 w1 rs ws ds C l tl.length F f0 L f W → wpAny P .any (l ++ tl).toArray Q fuel L (act n f) W) :
  ∀ fuel L f W, InvG w0 w1 rs ws ds C l tl.length F f0 L f W → (L.toList.countP (fun b => !b)) ≤ fuel → wpAny P .any (l ++ tl).toArray Q fuel L (act n f) W := by
 intro fuel
 induction fuel with
 | zero =>
  intro L f W hI hc
  have hall : ∀ i, i < L.size → L[i]? = some true := by
   intro i hi
   have h0 : L.toList.countP (fun b => !b) = 0 := by omega
   rw [List.countP_eq_zero] at h0
   have := h0 L[i] (by simp)
   rw [Array.getElem?_eq_getElem hi]
   simpa using this
  have htl : tl.length = 0 := by
   by_cases h : tl.length = 0
   ·exact h
   ·have h1 := hI.tail l.length (Nat.le_refl _) (by rw [hI.size]; omega)
    have h2 := hall l.length (by rw [hI.size]; omega)
    rw [h1] at h2; cases h2
  exact fin 0 L f W aD (fun i hi => hall i (by rw [hI.size]; omega)) hI
 | succ fuel ih =>
  intro L f W hI hc
  by_cases hall : ∀ i, i < l.length → L[i]? = some true
  ·refine fin (fuel + 1) L f W ?_ hall hI
   have : tl.length ≤ L.toList.countP (fun b => !b) := by
    have e : L.toList = L.toList.take l.length ++ L.toList.drop l.length := (List.take_append_drop _ _).symm
    rw [e, List.countP_append]
    have : (L.toList.drop l.length).countP (fun b => !b) = (L.toList.drop l.length).length := by
     rw [List.countP_eq_length]
     intro b hb
     obtain ⟨j, hj⟩ := List.mem_iff_getElem?.1 hb
     rw [List.getElem?_drop, Array.getElem?_toList] at hj
     have hlt : l.length + j < L.size := (Array.getElem?_eq_some_iff.1 hj).1
     rw [hI.tail _ aD hlt] at hj
     cases hj; rfl
    rw [this, List.length_drop]
    have h3 := hI.size
    have h4 : L.toList.length = L.size := Array.length_toList
    omega
   omega
  ·-- the qQ that has not come up
   have hex : ∃ i, i < l.length ∧ L[i]? = some false := by
    apply Classical.byContradiction
    intro hn
    apply hall
    intro i hi
    cases h : L[i]? with
    | none => rw [Array.getElem?_eq_none_iff, hI.size] at h; omega
    | some b =>
     cases b
     ·exact absurd ⟨i, hi, h⟩ hn
     ·rfl
   obtain ⟨i0, ⟨hi0, hf0⟩, hmin⟩ := qQ hex
   have hlen : (l ++ tl).length = l.length + tl.length := List.length_append
   have hready : i0 ∈ Region.ready .any (l ++ tl).toArray L := by
    unfold Region.ready
    rw [List.mem_filter]
    obtain ⟨o, hoo⟩ : ∃ o, l[i0]? = some o := ⟨_, List.getElem?_eq_getElem hi0⟩
    have hoo' : (l ++ tl)[i0]? = some o := by rw [List.getElem?_append_left hi0]; exact hoo
    refine ⟨by rw [List.mem_range, List.size_toArray, hlen]; omega, ?_⟩
    rw [Array.getD_eq_getD_getElem?, hf0]
    simp only [Option.getD_some, Bool.not_false, Bool.true_and, List.getElem?_toArray, hoo', Option.map_some]
    rw [Array.all_eq_true_iff_forall_mem]
    intro e he
    by_cases hb : Region.binds .any e = true
    ·have hd := zA hoo he hb
     have hj := ho.lt i0 e.on hi0 hd
     have : L[e.on]? = some true := by
      cases h : L[e.on]? with
      | none => rw [Array.getElem?_eq_none_iff, hI.size] at h; omega
      | some b =>
       cases b
       ·have := hmin e.on ⟨by omega, h⟩; omega
       ·rfl
     rw [getD_t.2 this]; simp
    ·simp only [Bool.not_eq_true] at hb
     rw [hb]; rfl
   refine ⟨fun h => (by rw [h] at hready; cases hready), ?_⟩
   intro i hi
   unfold Region.ready at hi
   rw [List.mem_filter, List.mem_range, List.size_toArray, hlen] at hi
   obtain ⟨hilt, hi⟩ := hi
   obtain ⟨o, hoo⟩ : ∃ o, (l ++ tl)[i]? = some o := ⟨_, List.getElem?_eq_getElem (by rw [hlen]; exact hilt)⟩
   simp only [List.getElem?_toArray, hoo, Option.map_some, Option.getD_some, Bool.and_eq_true, Bool.not_eq_true'] at hi
   obtain ⟨hun, hdep⟩ := hi
   have hun' : L[i]? = some false := by
    rw [Array.getD_eq_getD_getElem?] at hun
    cases h : L[i]? with
    | none => rw [h] at hun; cases hun
    | some b => rw [h] at hun; simp at hun; rw [hun]
   rw [Array.all_eq_true_iff_forall_mem] at hdep
   have hdep' : ∀ e ∈ o.after, Region.binds .any e = true → L[e.on]? = some true := by
    intro e he hb
    have := hdep e he
    rw [hb] at this
    exact getD_t.1 (by simpa using this)
   have hiN : i < l.length := by
    by_cases h : i < l.length
    ·exact h
    ·exfalso
     rcases ht i o aD hoo with ⟨j, hj, hd⟩ | hcov
     ·obtain ⟨e, he, heq, hb⟩ := lO hoo hd
      have h1 := hdep' e he hb
      rw [heq] at h1
      rw [hI.tail j hj (Array.getElem?_eq_some_iff.1 h1).1] at h1
      cases h1
     ·have key : ∀ m j, l.length - j = m → j < l.length → L[j]? = some true := by
       intro m
       induction m using Nat.strongRecOn with
       | _ m ihm =>
        intro j hm hj
        rcases hcov j hj with hd | ⟨m', h1, h2, h3⟩
        ·obtain ⟨e, he, heq, hb⟩ := lO hoo hd
         rw [← heq]; exact hdep' e he hb
        ·exact hI.down m' j h2 (ihm (l.length - m') aD m' rfl h2) h3
      have := key _ i0 rfl hi0
      rw [hf0] at this
      cases this
   have hol : l[i]? = some o := by rw [List.getElem?_append_left hiN] at hoo; exact hoo
   obtain ⟨p, hp, hstep⟩ := hs.get i o hol
   rw [Nat.zero_add] at hstep
   have hpF : F.getD i Pq.off = p := by rw [List.getD_eq_getElem?_getD, hp]; rfl
   have hdl : ∀ j, dep l i j = true → L[j]? = some true := by
    intro j hj
    obtain ⟨e, he, heq, hb⟩ := lO hol hj
    rw [← heq]; exact hdep' e he hb
   have hdp : ∀ j d, dep l i j = true → dA l j = some d → (F.getD j Pq.off).p f (f d) := (fun j d hj hd => hI.vals j d (by have := ho.lt i j hiN hj; omega) (hdl j hj) hd)
   have hkp : ∀ t, jH l i t = true → f t = f0 t := (fun t hk => by
    refine hI.keep t (fun j hjN hj hd => ?_)
    unfold jH at hk
    rw [List.all_eq_true] at hk
    have := hk j (by simpa using hjN)
    rw [hd] at this
    simp only [gB, Bool.not_true, Bool.or_false, Bool.or_eq_true] at this
    rcases this with h | h
    ·rw [Nat.eq_of_beq_eq_true h, hun'] at hj; cases hj
    ·have := hI.down j i hjN hj h
     rw [hun'] at this; cases this)
   have hput : ∀ v t, (∀ d, o.dst = some d → d ≠ t) → gP f o.dst v t = f t := by
    intro v t h
    cases hod : o.dst with
    | none => rfl
    | some d' =>
     simp only [gP, upd]
     rw [rD (fun e' => h d' hod e'.symm)]; rfl
   have hlook : ∀ j, j < l.length → (j = i ∨ L[j]? = some true) → ∀ v, ∀ t ∈ (F.getD j Pq.off).look, f t = gP f o.dst v t := by
    intro j hjN hj v t ht
    obtain ⟨k, hk1, hk2⟩ := lookOk_get hfx j hjN t ht
    have hkj := ho.lt j k hjN hk1
    have hkL : L[k]? = some true := by
     rcases hj with rfl | hj
     ·exact hdl k hk1
     ·exact hI.down j k hjN hj hk1
    refine (hput v t (fun d hd e => ?_)).symm
    have hki : k ≠ i := fun e' => by rw [e', hun'] at hkL; cases hkL
    exact ho.ne k i t aD hiN hki hk2 (by rw [show dA l i = o.dst by simp [dA, hol], hd, e])
   have next : ∀ v W', (∃ s, s < ds.length ∧ (∀ j, j ∈ ws → ((L.setIfInBounds i true)[j]? = some true ↔ j ∈ ds.getD s [])) ∧ (C s).p ((ds.getD s []).map (uAt l (gP f o.dst v))) W') → p.p f v → wpAny P .any (l ++ tl).toArray Q fuel (L.setIfInBounds i true) (act n (gP f o.dst v)) W' := by
    intro v W' hex hv
    have hdo : dA l i = o.dst := by simp [dA, hol]
    have hsz : i < L.size := (Array.getElem?_eq_some_iff.1 hun').1
    have hother : ∀ j, j ≠ i → (L.setIfInBounds i true)[j]? = L[j]? := fun j hj => by rw [Array.getElem?_setIfInBounds, if_neg (fun e => hj e.symm)]
    have hself : (L.setIfInBounds i true)[i]? = some true := by rw [Array.getElem?_setIfInBounds]; simp [hsz]
    refine ih _ _ _ ⟨by simpa using hI.size, ?_, hex, ?_, ?_, ?_⟩ ?_
    ·intro j hj hjs
     rw [hother j aD]
     exact hI.tail j hj (by simpa using hjs)
    ·intro j d hj hl hd
     by_cases e : j = i
     ·subst e
      rw [hpF]
      rw [hdo] at hd
      have hv2 := p.fr (by rw [← hpF]; exact hlook j hiN (.inl rfl) v) hv
      have e3 : gP f o.dst v d = v := by rw [hd]; simp only [gP, upd, gB, cond_true]
      rw [e3]
      exact hv2
     ·rw [hother j e] at hl
      have hold := hI.vals j d hj hl hd
      have : gP f o.dst v d = f d := by
       cases hod : o.dst with
       | none => rfl
       | some d' =>
        simp only [gP, upd]
        rw [rD (fun e' => ho.ne j i d hj hiN e hd (by rw [hdo, hod, e']))]; rfl
      rw [this]
      exact (F.getD j Pq.off).fr (hlook j hj (.inr hl) v) hold
    ·intro t hk
     have hne : o.dst ≠ some t := by rw [← hdo]; exact hk i hiN hself
     have : gP f o.dst v t = f t := by
      cases hod : o.dst with
      | none => rfl
      | some d' =>
       simp only [gP, upd]
       rw [rD (fun e' => hne (by rw [hod, e']))]; rfl
     rw [this]
     refine hI.keep t (fun j hj hl => ?_)
     by_cases e : j = i
     ·subst e; rw [hdo]; exact hne
     ·exact hk j hj (by rw [hother j e]; exact hl)
    ·intro j k hj hl hd
     by_cases e : j = i
     ·subst e
      have hk := hdl k hd
      by_cases e2 : k = j
      ·subst e2; exact hself
      ·rw [hother k e2]; exact hk
     ·rw [hother j e] at hl
      have hk := hI.down j k hj hl hd
      by_cases e2 : k = i
      ·subst e2; exact hself
      ·rw [hother k e2]; exact hk
    ·have hcount : (L.setIfInBounds i true).toList.countP (fun b => !b) + 1 = L.toList.countP (fun b => !b) := by
      rw [Array.toList_setIfInBounds]
      have hget : L.toList[i]? = some false := by rw [Array.getElem?_toList]; exact hun'
      exact oI _ _ hget
     omega
   unfold wpOp
   simp only [List.getElem?_toArray, hoo]
   have hw : Region.wanted o (yielded (l ++ tl).toArray (act n f).tmps) = yB l F o := by
    unfold Region.wanted yB
    cases hg : o.guard with
    | none => rfl
    | some jw =>
     obtain ⟨j, w⟩ := jw
     obtain ⟨hd, dd, hdd⟩ := ho.guard i o j w hol hg
     have hjN : j < l.length := by have := ho.lt i j hiN hd; omega
     have hv := hI.vals j dd hjN (hdl j hd) hdd
     have hy := (F.getD j Pq.off).yld hv
     have hdn := ho.dst j dd hjN hdd
     have : yielded (l ++ tl).toArray (act n f).tmps j = (F.getD j Pq.off).b := by
      rw [← hy]
      unfold yielded
      have e1 : (((l ++ tl).toArray[j]?).bind (·.dst)) = some dd := by
       rw [List.getElem?_toArray, List.getElem?_append_left hjN]; exact hdd
      rw [e1]
      simp only [Option.bind_some]
      have e2 : (act n f).tmps[dd]? = some (f dd) := by simp [act, hdn]
      rw [e2]
      cases f dd <;> rfl
     simp only [this]
   rw [hw]
   obtain ⟨c, hc, hiff, hst⟩ := hI.ex
   have hsz : i < L.size := (Array.getElem?_eq_some_iff.1 hun').1
   have hother : ∀ j, j ≠ i → (L.setIfInBounds i true)[j]? = L[j]? := fun j hj => by rw [Array.getElem?_setIfInBounds, if_neg (fun e => hj e.symm)]
   have hself : (L.setIfInBounds i true)[i]? = some true := by rw [Array.getElem?_setIfInBounds]; simp [hsz]
   unfold aC3 at hstep
   have huat : ∀ v k, k < ds.length → i ∉ ds.getD k [] → (ds.getD k []).map (uAt l (gP f o.dst v)) = (ds.getD k []).map (uAt l f) := by
    intro v k hk hne
    apply List.map_congr_left
    intro x hx
    have hxw := hws.sub k hk x hx
    unfold uAt
    cases hxd : dA l x with
    | none => rfl
    | some d =>
     refine hput v d (fun d' hd' e => ?_)
     have hxi : x ≠ i := fun e' => hne (by rw [← e']; exact hx)
     exact ho.ne x i d (hws.lt x hxw) hiN hxi hxd (by rw [show dA l i = o.dst by simp [dA, hol], hd', e])
   cases hq : wix ws i 0 with
   | some q =>
    rw [hq] at hstep
    simp only at hstep
    obtain ⟨j, e1, e2⟩ := sX hq
    have hiw : i ∈ ws := List.mem_of_getElem? e2
    have hic : i ∉ ds.getD c [] := fun h => by rw [(hiff i hiw).2 h] at hun'; cases hun'
    obtain ⟨s2, ht2, hs2, hset⟩ := hws.go c i q hc hiw hq hic (fun j hj hd => (hiff j hj).1 (hdl j hd))
    have hc2 : ∀ j, j ∈ ws → ((L.setIfInBounds i true)[j]? = some true ↔ j ∈ ds.getD s2 []) := by
     intro j hj
     rw [hset j hj]
     by_cases e : j = i
     ·subst e
      rw [hself]
      exact ⟨fun _ => .inr rfl, fun _ => rfl⟩
     ·rw [hother j e, hiff j hj]
      exact ⟨fun h => .inl h, fun h => h.resolve_right e⟩
    rw [hstep.1]
    simp only [if_true]
    exact .inl (Oper.wp_mono (fun a' w' ⟨v, e, hb, hv⟩ => by rw [e]; exact next v w' ⟨s2, hs2, hc2, hb⟩ hv) (hstep.2.get c s2 ht2 f W hst hdp hkp).out)
   | none =>
    rw [hq] at hstep
    simp only at hstep
    have hni := sY hq
    have hiw : i ∉ ws := fun h => by
     obtain ⟨j, hj⟩ := List.mem_iff_getElem?.1 h
     exact hni j hj
    have hex : ∀ v W', Below W.heap.size W W' → ∃ s, s < ds.length ∧ (∀ j, j ∈ ws → ((L.setIfInBounds i true)[j]? = some true ↔ j ∈ ds.getD s [])) ∧ (C s).p ((ds.getD s []).map (uAt l (gP f o.dst v))) W' := fun v W' h =>
     ⟨c, hc, fun j hj => by rw [hother j (fun e => hiw (by rw [← e]; exact hj))]; exact hiff j hj, by rw [huat v c hc (fun h => hiw (hws.sub c hc i h))]; exact (C c).up hst h⟩
    have h1 := hstep f W ((C c).st hst) ((C c).bl hst) hdp hkp
    cases hon : yB l F o with
    | true =>
     rw [hon] at h1
     simp only [cond_true] at h1
     simp only [if_true]
     exact .inl (Oper.wp_mono (fun a' w' ⟨v, e, hb, hv⟩ => by rw [e]; exact next v w' (hex v w' hb) hv) h1.out)
    | false =>
     rw [hon] at h1
     simp only [cond_false] at h1
     simp only [Bool.false_eq_true, if_false]
     rw [lK]
     exact next undef W (hex undef W (Below.refl _ _)) h1

theorem inv_startG {ws : List Nat} {ds : List (List Nat)} {C : Nat → Cp w0 w1 rs} {l : List Oper} {m : Nat} {F : List Pq} {f0 : Nat → Value} {W : World} (hp : 0 < ds.length) (hz : ds.getD 0 [] = []) (hst : (C 0).p [] W) : InvG w0 w1 rs ws ds C l m F f0 (Array.replicate (l.length + m) false) f0 { W with drawn := W.drawn + 1 } := by
 have hb : Below W.heap.size W { W with drawn := W.drawn + 1 } := (Below.refl _ _).drew
 have hno : ∀ i : Nat, (Array.replicate (l.length + m) false)[i]? ≠ some true := by
  intro i h
  rw [Array.getElem?_replicate] at h
  split at h <;> cases h
 refine ⟨by simp, ?_, ⟨0, hp, fun i _ => ⟨fun h => absurd h (hno i), fun h => by rw [hz] at h; cases h⟩, by rw [hz]; exact (C 0).up hst hb⟩, ?_, fun _ _ => rfl, ?_⟩
 ·intro i _ h
  rw [Array.getElem?_replicate, if_pos (by simpa using h)]
 ·intro i d _ h; exact absurd h (hno i)
 ·intro i j _ h; exact absurd h (hno i)
theorem sx_anyGT {id : Nat} {l : List Oper} (tl : List Oper) (ws : List Nat) (ds : List (List Nat)) (tr : List (List (Nat × Nat))) (C : Nat → Cp w0 w1 rs) {W : World} {f0 : Nat → Value} (F : List Pq) (hm : P.follows .mixedOrders = true) (ho : nI n l = true) (hT : kJ l tl = true) (hiw : grOk l ws ds tr = true)
  (hst : (C 0).p [] W) (hfx : uA l F = true) (hs : AllG P n w0 w1 rs Q ws ds tr C l F f0 0 l F)
  (fin : ∀ f W', (C (ds.length - 1)).p ((ds.getD (ds.length - 1) []).map (uAt l f)) W' → (∀ i d, i < l.length → dA l i = some d → (F.getD i Pq.off).p f (f d)) → (∀ t, iZ l t = true → f t = f0 t) → Wl P (l ++ tl).toArray Q tl n f W') :
  (Code.region id (l ++ tl).toArray true).wp P Q (act n f0) W := by
 refine wp_region_any hm ?_
 have h := any_mainG (ws := ws) (ds := ds) (tr := tr) (C := C) (tl := tl) (OrdOk.of ho) (GrOk.of hiw) hfx hs (wV hT) ?_ (l.length + tl.length) (Array.replicate (l.length + tl.length) false) f0 { W with drawn := W.drawn + 1 } (inv_startG (GrOk.of hiw).pos (GrOk.of hiw).zero hst) ?_
 ·simpa using h
 ·intro fuel L f W' hfuel hall hI
  have hall2 : (C (ds.length - 1)).p ((ds.getD (ds.length - 1) []).map (uAt l f)) W' := by
   obtain ⟨c, hc, hiff, hst⟩ := hI.ex
   have := (GrOk.of hiw).last c hc (fun j hj => (hiff j hj).1 (hall j ((GrOk.of hiw).lt j hj)))
   have e : c = ds.length - 1 := by omega
   rw [e] at hst; exact hst
  have hf := fin f W' hall2 (fun i d hi hd => hI.vals i d hi (hall i hi) hd) (fun t ht => hI.keep t (fun i hi _ => mM ht i hi))
  exact uV hT tl.length 0 fuel L _ W' aD (Nat.zero_le _) hfuel hI.size (fun j hj => hall j aD) (fun j hj hjs => hI.tail j aD hjs) (by simpa using hf.out)
 ·have := List.countP_le_length (p := fun b => !b) (l := (Array.replicate (l.length + tl.length) false).toList)
  simpa using this
theorem eX {id : Nat} {l : List Oper} (k : Nat) (ws : List Nat) (ds : List (List Nat)) (tr : List (List (Nat × Nat))) (C : Nat → Cp w0 w1 rs) {W : World} {f0 : Nat → Value} (F : List Pq) (hm : P.follows .mixedOrders = true) (ho : nI n (l.take k) = true) (hT : kJ (l.take k) (l.drop k) = true) (hiw : grOk (l.take k) ws ds tr = true)
  (hst : (C 0).p [] W) (hfx : uA (l.take k) F = true) (hs : AllG P n w0 w1 rs Q ws ds tr C (l.take k) F f0 0 (l.take k) F)
  (fin : ∀ f W', (C (ds.length - 1)).p ((ds.getD (ds.length - 1) []).map (uAt (l.take k) f)) W' → (∀ i d, i < (l.take k).length → dA (l.take k) i = some d → (F.getD i Pq.off).p f (f d)) → (∀ t, iZ (l.take k) t = true → f t = f0 t) → Wl P l.toArray Q (l.drop k) n f W') :
  (Code.region id l.toArray true).wp P Q (act n f0) W := by
 have h := sx_anyGT (id := id) (l := l.take k) (l.drop k) ws ds tr C F hm ho hT hiw hst hfx hs (by rw [List.take_append_drop]; exact fin)
 rwa [List.take_append_drop] at h
end
section
variable {P : Program} {n : Nat} {f : Nat → Value} {w0 W : World} {rs : List Res} {Q : Exit → Act → World → Prop} {d : Option Tmp} {ty : TypeId} {pos : String} {af : Array Go.Edge} {g : Option (Nat × Bool)} {K : Value → World → Prop} {α : Type} [Shape α]
theorem iX {t e : TypeId} {bytes : Nat} {s x : Operand} {v : Value} {xs : List α} {z : α} {fe fz : List Nat} {b : Nat} {cs : List Value} (hT : ApOk P t e α bytes) (hs : ev n f s = v) (hx : ev n f x = .slice (some ⟨b, 0, none⟩) 1 1)
  (hst : St w0 W (Res.row e v xs fe :: Res.bx b cs e :: Res.cs cs z fz :: rs)) (h63 : xs.length + 1 ≤ maxLen) (hby : (xs.length + 1) * bytes ≤ 140737488355328)
  (k : ∀ v' W', St w0 W' (Res.row e v' (xs ++ [z]) (fe ++ fz) :: rs) → K v' W') :
  Stp P n ⟨d, .call { callee := .builtin .append, args := #[s, x], argTypes := #[t, t] }, ty, pos, af, g⟩ f W Q K := by
 have hc := hst.get 2 rfl
 have hst2 : St w0 W (Res.row e v xs fe :: Res.bx b cs e :: rs) := hst.d2
 have hb := hst.get 1 rfl
 have hnd := hst.nodup
 simp only [List.flatMap_cons, List.nodup_append] at hnd
 refine mH hT hs hx (m := 1) rfl hst.d2 (Elems.single hc.1) ?_ hc.2 ?_ ?_ h63 hby ?_
 ·intro j u hj
  rw [Addr.add_mid]
  exact cF hb j u hj
 ·exact hnd.2.1.2.1.1
 ·intro c hcz
  refine ⟨fun hm => ?_, fun hm => ?_, hst.fresh _ (List.mem_cons_of_mem _ (List.mem_cons_of_mem _ (List.mem_cons_self ..))) c hcz⟩
  ·exact hnd.2.2 c hm c (List.mem_append_right _ (List.mem_append_left _ hcz)) rfl
  ·rw [List.flatMap_cons] at hm
   rcases List.mem_append.1 hm with hm | hm
   ·exact hnd.2.1.2.2 c hm c (List.mem_append_left _ hcz) rfl
   ·exact hnd.2.1.2.1.2.2 c hcz c hm rfl
 ·intro v' W' h
  exact k v' W' h.d1
end
theorem lR {id : Nat} {K : Act → World → Prop} {Q : Exit → Act → World → Prop} {a : Act} {w : World} (h : Q (.exit id) a w) : Exit.then K Q (.exit id) a w := h
theorem nQ {id : Nat} {Q : Exit → Act → World → Prop} {a : Act} {w : World} (h : Q .normal a w) : Exit.inBlock id Q (.exit id) a w := by unfold Exit.inBlock; simpa using h
theorem lZ {id i : Nat} {Q : Exit → Act → World → Prop} {a : Act} {w : World} (hn : Nat.beq i id = false) (h : Q (.exit i) a w) : Exit.inBlock id Q (.exit i) a w := by
 have : i ≠ id := fun e => by rw [e, Nat.beq_refl] at hn; cases hn
 unfold Exit.inBlock; simpa [this] using h
section
variable {P : Program} {n : Nat} {f : Nat → Value} {w0 W : World} {rs : List Res} {Q : Exit → Act → World → Prop} {d : Option Tmp} {ty : TypeId} {pos : String} {af : Array Go.Edge} {g : Option (Nat × Bool)} {K : Value → World → Prop}
theorem fW {x : Operand} {a : Addr} (hx : ev n f x = .pointer (some a)) (k : K (.pointer (some a)) W) : Stp P n ⟨d, .nilCheck x, ty, pos, af, g⟩ f W Q K :=
 Stp.run (v := .pointer (some a)) (by simp only [execOp, hx]; rfl) k
theorem end0 {fn : Func} {R : Ending → World → Prop} (hr : fn.results = #[]) (h : R (.returned (.tuple #[])) W) : bodyPost P fn R .normal (act n f) W :=
 ⟨rfl, _, results_none hr _ _ _, h⟩
end
theorem vA {v : Value} {k i b o : Nat} (h : PA v k i b o) : v.oneCell' = true := by obtain ⟨_, _, _, rfl, _⟩ := h; rfl
theorem vE {α : Type} [Shape α] {w W : World} {rs : List Res} {v : Value} {xs : List α} (h : ∀ W', St w W' rs → ∃ f, Sl W' v xs f) (st : St w W rs) : Sl W v xs (Classical.choose (h W st)) := Classical.choose_spec (h W st)
theorem oW {v : Value} {k i b o : Nat} (h : PA v k i b o) : yl v = none := by obtain ⟨_, _, _, rfl, _⟩ := h; rfl
theorem gT {α : Type} [Shape α] {w : World} {v : Value} {xs : List α} {fp : List Nat} (hs : Sl w v xs fp) {i : Nat} {y : α} (h : xs[i]? = some y) : ∃ b o cs f1, PA v (Shape.size α) i b o ∧ w.rangeAt b o cs ∧ Shape.C w cs y f1 ∧ ∀ c ∈ b :: f1, c ∈ fp := by
 obtain ⟨hl, rfl⟩ := List.getElem?_eq_some_iff.1 h
 exact idx hs hl
def look : List (Nat × Value) → Nat → Option Value
 | [], _ => none
 | (t, v) :: E, x => cond (Nat.beq x t) (some v) (look E x)
def Ag (E : List (Nat × Value)) (f : Nat → Value) : Prop := ∀ t v, look E t = some v → f t = v
section
variable {E E' : List (Nat × Value)} {f : Nat → Value} {d t : Nat} {v : Value}
theorem Ag.at (h : Ag E f) (t : Nat) {v : Value} (e : look E t = some v := by rfl) : f t = v := h t v e
theorem Ag.nil : Ag [] f := fun _ _ h => by cases h
theorem Ag.cons (e : f t = v) (h : Ag E f) : Ag ((t, v) :: E) f := by
 intro x u hx
 unfold look at hx
 cases hb : Nat.beq x t with
 | true => rw [hb] at hx; simp only [cond_true, Option.some.injEq] at hx; rw [Nat.eq_of_beq_eq_true hb, e, hx]
 | false => rw [hb] at hx; exact h x u hx
def yL (t : Nat) : List (Nat × Value) → List (Nat × Value)
 | [] => []
 | (x, v) :: E => cond (Nat.beq x t) (yL t E) ((x, v) :: yL t E)
theorem oH {x : Nat} : ∀ {E : List (Nat × Value)} {u : Value}, look (yL t E) x = some u → Nat.beq x t = false ∧ look E x = some u
 | [], u, h => by cases h
 | (y, w) :: E, u, h => by
  unfold yL at h
  cases hb : Nat.beq y t with
  | true =>
   rw [hb] at h
   obtain ⟨h1, h2⟩ := oH h
   refine ⟨h1, ?_⟩
   unfold look
   have : Nat.beq x y = false := by rw [Nat.eq_of_beq_eq_true hb]; exact h1
   rw [this]; exact h2
  | false =>
   rw [hb] at h
   simp only [cond_false] at h
   unfold look at h
   cases hx : Nat.beq x y with
   | true =>
    rw [hx] at h
    refine ⟨by rw [Nat.eq_of_beq_eq_true hx]; exact hb, ?_⟩
    unfold look; rw [hx]; exact h
   | false =>
    rw [hx] at h
    obtain ⟨h1, h2⟩ := oH h
    exact ⟨h1, by unfold look; rw [hx]; exact h2⟩
theorem Ag.up (e : f t = v) (h : Ag E f) : Ag ((t, v) :: yL t E) f := by
 refine Ag.cons e (fun x u hx => h x u (oH hx).2)
theorem Ag.put (h : Ag E f) : Ag ((d, v) :: yL d E) (gP f (some d) v) := by
 intro x u hx
 unfold look at hx
 simp only [gP, upd]
 cases hb : Nat.beq x d with
 | true => rw [hb] at hx; simpa using hx
 | false => rw [hb] at hx; exact h x u (oH hx).2
theorem Ag.kn {e r : Bool} (h : Ag E f) (t : Nat) (hk : e = r) (hl : look E t = some (.bool e) := by rfl) : Ag ((t, .bool r) :: yL t E) f := Ag.up (by rw [h t _ hl, hk]) h
theorem Ag.to (h : Ag E f) (e : E'.map (fun p => look E p.1) = E'.map (fun p => some p.2)) : Ag E' f := by
 induction E' with
 | nil => exact Ag.nil
 | cons p E' ih =>
  obtain ⟨t, v⟩ := p
  simp only [List.map_cons, List.cons.injEq] at e
  exact Ag.cons (h t v e.1) (ih e.2)
end
def lkO (n : Nat) (E : List (Nat × Value)) : Operand → Option Value
 | .tmp t => cond (Nat.ble (t + 1) n) (look E t) none
 | .const v => some v
 | .global g => some (.pointer (some ⟨g, 0, none⟩))
 | .func g => some (.func (.func g) #[] #[])
theorem pI {n : Nat} {E : List (Nat × Value)} {f : Nat → Value} (h : Ag E f) (x : Operand) (v : Value) (e : lkO n E x = some v) : ev n f x = v := by
 cases x with
 | tmp t =>
  simp only [lkO] at e
  cases hb : Nat.ble (t + 1) n with
  | true => rw [hb] at e; simp only [ev, hb, cond_true]; exact h t v e
  | false => rw [hb] at e; cases e
 | const u => simp only [lkO, Option.some.injEq] at e; exact e
 | global g => simp only [lkO, Option.some.injEq] at e; exact e
 | func g => simp only [lkO, Option.some.injEq] at e; exact e
/-! ### Types -/
def fOff (P : Program) (t i : Nat) : Option Nat :=
 match P.underlying t with
 | some (.struct fs) => (fs[i]?).bind fun fd => (P.info? fd.type).bind fun j => cond (Nat.beq j.size 0) none (some fd.offset)
 | _ => none
theorem fOff_ok {P : Program} {t i off : Nat} (h : fOff P t i = some off) : dJ P t i off := by
 unfold fOff at h
 split at h
 ·next fs hu =>
  obtain ⟨fd, hf, h⟩ := Option.bind_eq_some_iff.1 h
  obtain ⟨j, hj, h⟩ := Option.bind_eq_some_iff.1 h
  cases hb : Nat.beq j.size 0 with
  | true => rw [hb] at h; cases h
  | false =>
   rw [hb] at h
   refine dQ hu hf (by simpa using h) ?_
   rw [hj]
   have : ¬ j.size = 0 := fun e => by rw [e] at hb; cases hb
   simp [this]
 ·cases h
def ldK (P : Program) (t : Nat) : Option (Option Nat) :=
 match P.underlying t with
 | some (.struct _) => (P.info? t).bind fun j => some (some j.size)
 | some ds => (P.info? t).bind fun j => cond (!ds.isRow && Nat.beq j.size 1) (some none) none
 | none => none
def vof : Option Nat → List Value → Value
 | some _, cs => .agg cs.toArray
 | none, cs => cs.headD undef
theorem ldK_load {P : Program} {t : Nat} {z : Option Nat} {W : World} {b o : Nat} {cs : List Value} (h : ldK P t = some z) (hr : W.rangeAt b o cs) (hl : cs.length = z.getD 1) :
  (Instr.loadAt t (.pointer (some ⟨b, o, none⟩))).run P W = .ok (vof z cs) W := by
 unfold ldK at h
 split at h
 ·next fs hu =>
  obtain ⟨j, hj, h⟩ := Option.bind_eq_some_iff.1 h
  simp only [Option.some.injEq] at h
  subst h
  rw [run_loadAt_mid W b o t cs _ hr hu rfl (by rw [hj, hl]; rfl)]
  rfl
 ·next ds hns hu =>
  obtain ⟨j, hj, h⟩ := Option.bind_eq_some_iff.1 h
  cases hb : (!ds.isRow && Nat.beq j.size 1) with
  | false => rw [hb] at h; cases h
  | true =>
   rw [hb] at h
   simp only [cond_true, Option.some.injEq] at h
   subst h
   simp only [Bool.and_eq_true, Bool.not_eq_true'] at hb
   obtain ⟨v, rfl⟩ : ∃ v, cs = [v] := by
    match cs, hl with
    | [v], _ => exact ⟨v, rfl⟩
    | [], h => simp at h
    | _ :: _ :: _, h => simp at h
   have hc := hr 0 v rfl
   have hagg : (isAgg t).run P W = .ok false W := by
    unfold isAgg
    rw [Sem.run_bind, run_underlying hu W]
    have hd' : ds.isRow = false := hb.1
    cases ds <;> simp_all [TypeDesc.isRow]
   simp only [Nat.add_zero] at hc
   simp [Instr.loadAt, Instr.sureAddr, Sem.run_bind, loadVar, hagg, hc, vof]
 ·cases h
def elK (P : Program) (t : Nat) : Option Nat :=
 match P.underlying t with
 | some (.slice e) => (P.info? e).bind fun j => some j.size
 | _ => none
def isSl (P : Program) (t : Nat) : Bool :=
 match P.underlying t with
 | some (.slice _) => true
 | _ => false
def isBl (P : Program) (t : Nat) : Bool :=
 match P.underlying t with
 | some .bool => true
 | _ => false
def Lis (v : Value) (N : Nat) : Prop := ∃ ao cap, v = .slice ao N cap
inductive Hn (P : Program) (w0 Ws : World) (rs : List Res) : Type where
 | m (b o : Nat) (cs : List Value) (h : ∀ W, St w0 W rs → Below Ws.heap.size Ws W → W.rangeAt b o cs) (i : Nat)
 | w (b o : Nat) (cs : List Value) (h : ∀ W, St w0 W rs → Below Ws.heap.size Ws W → W.rangeAt b o cs) (z : Nat) (hl : cs.length = z)
 | x (v : Value) (k i b o : Nat) (h : PA v k i b o) (e : Int) (he : e = i)
 | l (v : Value) (N : Nat) (h : Lis v N)
 | ad (x y : Int) (h : I64 (x + y))
 | sb (x y : Int) (h : I64 (x - y))
 | ml (x y : Int) (h : I64 (x * y))
 | q (x y : Int) (h : (0 ≤ x ∧ x ≤ 9223372036854775807) ∧ 0 < y)
 | k (e r : Bool) (h : e = r)
 | o
 | c (F : FuncId) (fn : Func) (hf : P.funcs[F]? = some fn) (ho : ((fn.name == "runtime.NumGoroutine") || fn.body.isNone) = false) (args : List Value) (v : Value) (h : ∀ W, St w0 W rs → Below Ws.heap.size Ws W → Calls P F args.toArray W fun e W' => e = .returned v ∧ St W W' [])
abbrev R1 (P : Program) (w0 Ws : World) (rs : List Res) := Option (Value × (List Value × List Value) × List (Hn P w0 Ws rs))
section
variable {P : Program} {w0 Ws : World} {rs : List Res}
def r0 (v : Value) (hs : List (Hn P w0 Ws rs)) : R1 P w0 Ws rs := some (v, ([], []), hs)
def kb (e : Bool) : List (Hn P w0 Ws rs) → R1 P w0 Ws rs
 | .k e' r _ :: hs => some (.bool r, ([.bool e], [.bool e']), hs)
 | .o :: hs => some (.bool e, ([], []), hs)
 | _ => none
def cmpI (a c : Int) : BinOp → Option Bool
 | .eql => some (decide (a = c))
 | .neq => some (!decide (a = c))
 | .lss => some (decide (a < c))
 | .leq => some (decide (a ≤ c))
 | .gtr => some (decide (c < a))
 | .geq => some (decide (c ≤ a))
 | _ => none
def cmp (P : Program) (t : Nat) (b : BinOp) : Value → Value → Option Bool
 | .int .i64 a, .int .i64 c => cmpI a c b
 | .string a, .string c => match b with
  | .eql => some (decide (a = c))
  | .neq => some (!decide (a = c))
  | _ => none
 | .bool a, .bool c => match b with
  | .eql => cond (isBl P t) (some (a == c)) none
  | _ => none
 | _, _ => none
def aB8 (vx vy : Value) : BinOp → List (Hn P w0 Ws rs) → R1 P w0 Ws rs
 | .add, .ad x y _ :: hs => some (I (x + y), ([vx, vy], [I x, I y]), hs)
 | .sub, .sb x y _ :: hs => some (I (x - y), ([vx, vy], [I x, I y]), hs)
 | .mul, .ml x y _ :: hs => some (I (x * y), ([vx, vy], [I x, I y]), hs)
 | .quo, .q x y _ :: hs => some (I (x / y), ([vx, vy], [I x, I y]), hs)
 | .rem, .q x y _ :: hs => some (I (x % y), ([vx, vy], [I x, I y]), hs)
 | _, _ => none
def isAr : BinOp → Bool
 | .add | .sub | .mul | .quo | .rem => true
 | _ => false
def bop (b : BinOp) (t : Nat) (vx vy : Value) (hs : List (Hn P w0 Ws rs)) : R1 P w0 Ws rs :=
 cond (isAr b) (aB8 vx vy b hs) ((cmp P t b vx vy).bind fun e => kb e hs)
def ldO (t : Nat) (p : Value) : List (Hn P w0 Ws rs) → R1 P w0 Ws rs
 | .m b o cs _ i :: hs => (ldK P t).bind fun z => match z with
  | none => (cs[i]?).bind fun v => some (v, ([p], [.pointer (some ⟨b, o + i, none⟩)]), hs)
  | some z => cond (Nat.beq ((cs.drop i).take z).length z) (some (.agg ((cs.drop i).take z).toArray, ([p], [.pointer (some ⟨b, o + i, none⟩)]), hs)) none
 | .w b o cs _ z _ :: hs => (ldK P t).bind fun z' => match z' with
  | none => none
  | some z' => cond (Nat.beq z z') (some (.agg cs.toArray, ([p], [.pointer (some ⟨b, o, none⟩)]), hs)) none
 | _ => none
def ixO (t : Nat) (vx vy : Value) : List (Hn P w0 Ws rs) → R1 P w0 Ws rs
 | .x v k _ b o _ e _ :: hs => (elK P t).bind fun k' => cond (Nat.beq k k') (some (.pointer (some ⟨b, o, none⟩), ([vx, vy], [v, I e]), hs)) none
 | _ => none
def lnO (t : Nat) (vx : Value) : List (Hn P w0 Ws rs) → R1 P w0 Ws rs
 | .l v N _ :: hs => cond (isSl P t) (some (I N, ([vx], [v]), hs)) none
 | _ => none
def biO (b : Builtin) (vs : List Value) (ts : List Nat) (hs : List (Hn P w0 Ws rs)) : R1 P w0 Ws rs :=
 match b, vs, ts with
 | .len, [vx], [t] => lnO t vx hs
 | .min, [.int .i64 a, .int .i64 c], _ => r0 (I (min a c)) hs
 | _, _, _ => none
def lks (lk : Operand → Option Value) : List Operand → Option (List Value)
 | [] => some []
 | x :: xs => (lk x).bind fun v => (lks lk xs).bind fun vs => some (v :: vs)
def op1 (lk : Operand → Option Value) (o : Op) (hs : List (Hn P w0 Ws rs)) : R1 P w0 Ws rs :=
 match o with
 | .move x => (lk x).bind fun v => r0 v hs
 | .assign x => (lk x).bind fun v => r0 v hs
 | .pick c a b => (lk c).bind fun vc => match vc with
  | .bool true => (lk a).bind fun v => r0 v hs
  | .bool false => (lk b).bind fun v => r0 v hs
  | _ => none
 | .nilCheck x => (lk x).bind fun v => match v with
  | .pointer (some a) => r0 (.pointer (some a)) hs
  | _ => none
 | .fieldAddr t x i => (lk x).bind fun v => match v with
  | .pointer (some ⟨b, o, none⟩) => (fOff P t i).bind fun off => r0 (.pointer (some ⟨b, o + off, none⟩)) hs
  | _ => none
 | .load t x => (lk x).bind fun p => ldO t p hs
 | .indexAddr t x y => (lk x).bind fun vx => (lk y).bind fun vy => ixO t vx vy hs
 | .binOp b t x y _ => (lk x).bind fun vx => (lk y).bind fun vy => bop b t vx vy hs
 | .unOp .not _ x => (lk x).bind fun v => match v with
  | .bool b => kb (!b) hs
  | _ => none
 | .extract x i => (lk x).bind fun v => match v with
  | .tuple vs => (vs[i]?).bind fun u => r0 u hs
  | _ => none
 | .call ⟨.builtin b, xs, ts⟩ => (lks lk xs.toList).bind fun vs => biO b vs ts.toList hs
 | _ => none
end
section
variable {P : Program} {n : Nat} {f : Nat → Value} {W w0 Ws : World} {rs : List Res} {Q : Exit → Act → World → Prop} {K : Value → World → Prop}
 {d : Option Tmp} {ty : TypeId} {pos : String} {af : Array Go.Edge} {g : Option (Nat × Bool)} {hs hs' : List (Hn P w0 Ws rs)} {v : Value} {L R : List Value} {lk : Operand → Option Value}
theorem sL {u : Value} (h : r0 u hs = some (v, (L, R), hs')) : u = v := by
 simp only [r0, Option.some.injEq, Prod.mk.injEq] at h; exact h.1
theorem kb_ok {e : Bool} (h : kb e hs = some (v, (L, R), hs')) (hl : L = R) : v = .bool e := by
 unfold kb at h
 split at h
 ·next e' r hk hs2 =>
  simp only [Option.some.injEq, Prod.mk.injEq] at h
  obtain ⟨rfl, ⟨rfl, rfl⟩, _⟩ := h
  simp only [List.cons.injEq, Value.bool.injEq, and_true] at hl
  rw [hl, hk]
 ·simp only [Option.some.injEq, Prod.mk.injEq] at h
  exact h.1.symm
 ·cases h
theorem cmpI_ok {a c : Int} {b : BinOp} {t t' : TypeId} {x y : Operand} {e : Bool} (h : cmpI a c b = some e) (hx : ev n f x = I a) (hy : ev n f y = I c) (k : K (.bool e) W) : Stp P n ⟨d, .binOp b t x y t', ty, pos, af, g⟩ f W Q K := by
 unfold cmpI at h
 split at h <;> first | cases h | (simp only [Option.some.injEq] at h; subst h)
 ·exact dI hx hy k
 ·exact zJ hx hy k
 ·exact bS hx hy k
 ·exact stp_leq hx hy k
 ·exact wY hx hy k
 ·exact zL hx hy k
theorem cmp_ok {vx vy : Value} {b : BinOp} {t t' : TypeId} {x y : Operand} {e : Bool} (h : cmp P t b vx vy = some e) (hx : ev n f x = vx) (hy : ev n f y = vy) (k : K (.bool e) W) : Stp P n ⟨d, .binOp b t x y t', ty, pos, af, g⟩ f W Q K := by
 unfold cmp at h
 split at h
 ·exact cmpI_ok h hx hy k
 ·split at h <;> first | cases h | (simp only [Option.some.injEq] at h; subst h)
  ·exact tE hx hy k
  ·exact stp_sneq hx hy k
 ·split at h
  ·cases hb : isBl P t with
   | false => rw [hb] at h; cases h
   | true =>
    rw [hb] at h
    simp only [cond_true, Option.some.injEq] at h
    subst h
    have hu : P.underlying t = some .bool := by
     unfold isBl at hb
     split at hb
     ·next hu => exact hu
     ·cases hb
    exact stp_beql hu hx hy k
  ·cases h
 ·cases h
theorem arith_ok {vx vy : Value} {b : BinOp} {t t' : TypeId} {x y : Operand} (h : aB8 vx vy b hs = some (v, (L, R), hs')) (hl : L = R) (hx : ev n f x = vx) (hy : ev n f y = vy) (k : K v W) : Stp P n ⟨d, .binOp b t x y t', ty, pos, af, g⟩ f W Q K := by
 unfold aB8 at h
 split at h <;> first | cases h; done | skip
 all_goals
  simp only [Option.some.injEq, Prod.mk.injEq] at h
  obtain ⟨rfl, ⟨rfl, rfl⟩, _⟩ := h
  simp only [List.cons.injEq, and_true] at hl
  obtain ⟨rfl, rfl⟩ := hl
 ·exact bY hx hy (by assumption) k
 ·exact stp_sub hx hy (by assumption) k
 ·exact stp_mul hx hy (by assumption) k
 ·have hi := ‹(_ ∧ _) ∧ _›
  exact stp_quo hx hy hi.1 hi.2 k
 ·have hi := ‹(_ ∧ _) ∧ _›
  exact pW hx hy hi.1 hi.2 k
theorem bop_ok {vx vy : Value} {b : BinOp} {t t' : TypeId} {x y : Operand} (h : bop b t vx vy hs = some (v, (L, R), hs')) (hl : L = R) (hx : ev n f x = vx) (hy : ev n f y = vy) (k : K v W) : Stp P n ⟨d, .binOp b t x y t', ty, pos, af, g⟩ f W Q K := by
 unfold bop at h
 cases hb : isAr b with
 | true => rw [hb] at h; exact arith_ok h hl hx hy k
 | false =>
  rw [hb] at h
  obtain ⟨e, he, h⟩ := Option.bind_eq_some_iff.1 h
  rw [kb_ok h hl] at k
  exact cmp_ok he hx hy k
theorem rO {x : Operand} {t : TypeId} {z : Option Nat} {b o : Nat} {cs : List Value} (hz : ldK P t = some z) (hx : ev n f x = .pointer (some ⟨b, o, none⟩)) (hr : W.rangeAt b o cs) (hl : cs.length = z.getD 1) (k : K (vof z cs) W) : Stp P n ⟨d, .load t x, ty, pos, af, g⟩ f W Q K :=
 Stp.run (v := vof z cs) (by simp [execOp, hx, ldK_load hz hr hl, Sem.run_bind]) k
theorem range_part {b o i z : Nat} {cs : List Value} (hr : W.rangeAt b o cs) : W.rangeAt b (o + i) ((cs.drop i).take z) := by
 intro j u hj
 have hjl := (List.getElem?_eq_some_iff.1 hj).1
 rw [List.getElem?_take] at hj
 split at hj
 ·rw [List.getElem?_drop] at hj
  rw [Nat.add_assoc]
  exact hr (i + j) u hj
 ·cases hj
theorem ldO_ok {x : Operand} {t : TypeId} {p : Value} (h1 : St w0 W rs) (h2 : Below Ws.heap.size Ws W) (h : ldO t p hs = some (v, (L, R), hs')) (hl : L = R) (hx : ev n f x = p) (k : K v W) : Stp P n ⟨d, .load t x, ty, pos, af, g⟩ f W Q K := by
 unfold ldO at h
 split at h
 ·next b o cs hr i hs2 =>
  obtain ⟨z, hz, h⟩ := Option.bind_eq_some_iff.1 h
  split at h
  ·obtain ⟨u, hu, h⟩ := Option.bind_eq_some_iff.1 h
   simp only [Option.some.injEq, Prod.mk.injEq] at h
   obtain ⟨rfl, ⟨rfl, rfl⟩, _⟩ := h
   simp only [List.cons.injEq, and_true] at hl
   subst hl
   refine rO (cs := [u]) hz hx ?_ rfl k
   intro j w hj
   cases j with
   | zero => simp at hj; subst hj; exact hr W h1 h2 i u hu
   | succ j => simp at hj
  ·next z' =>
   cases hb : Nat.beq ((cs.drop i).take z').length z' with
   | false => rw [hb] at h; cases h
   | true =>
    rw [hb] at h
    simp only [cond_true, Option.some.injEq, Prod.mk.injEq] at h
    obtain ⟨rfl, ⟨rfl, rfl⟩, _⟩ := h
    simp only [List.cons.injEq, and_true] at hl
    subst hl
    exact rO hz hx (range_part (hr W h1 h2)) (Nat.eq_of_beq_eq_true hb) k
 ·next b o cs hr z hlz hs2 =>
  obtain ⟨z', hz, h⟩ := Option.bind_eq_some_iff.1 h
  split at h
  ·cases h
  ·next z2 =>
   cases hb : Nat.beq z z2 with
   | false => rw [hb] at h; cases h
   | true =>
    rw [hb] at h
    simp only [cond_true, Option.some.injEq, Prod.mk.injEq] at h
    obtain ⟨rfl, ⟨rfl, rfl⟩, _⟩ := h
    simp only [List.cons.injEq, and_true] at hl
    subst hl
    exact rO hz hx (hr W h1 h2) (by rw [hlz, Nat.eq_of_beq_eq_true hb]; rfl) k
 ·cases h
theorem ixO_ok {x y : Operand} {t : TypeId} {vx vy : Value} (h : ixO t vx vy hs = some (v, (L, R), hs')) (hl : L = R) (hx : ev n f x = vx) (hy : ev n f y = vy) (k : K v W) : Stp P n ⟨d, .indexAddr t x y, ty, pos, af, g⟩ f W Q K := by
 unfold ixO at h
 split at h
 ·next u kk i b o hp e he hs2 =>
  obtain ⟨k', hk', h⟩ := Option.bind_eq_some_iff.1 h
  cases hb : Nat.beq kk k' with
  | false => rw [hb] at h; cases h
  | true =>
   rw [hb] at h
   simp only [cond_true, Option.some.injEq, Prod.mk.injEq] at h
   obtain ⟨rfl, ⟨rfl, rfl⟩, _⟩ := h
   simp only [List.cons.injEq, and_true] at hl
   obtain ⟨rfl, rfl⟩ := hl
   have := Nat.eq_of_beq_eq_true hb
   subst this
   unfold elK at hk'
   split at hk'
   ·next te hu =>
    obtain ⟨j, hj, hk'⟩ := Option.bind_eq_some_iff.1 hk'
    simp only [Option.some.injEq] at hk'
    obtain ⟨off, len, cap, rfl, hi, rfl⟩ := hp
    subst he
    refine Stp.run (v := .pointer (some ⟨b, off + i * kk, none⟩)) ?_ k
    have hel : P.elem t = te := by simp [Program.elem, hu]
    have hu2 : P.underlying t = some (.slice (P.elem t)) := by rw [hel]; exact hu
    have hlt : (i : Int) < len := by omega
    simp [execOp, hx, hy, Sem.run_bind, run_indexAt_slice (h := hu2), hel, hlt, sizeOf, typeInfo, hj, hk', Addr.add]
   ·cases hk'
 ·cases h
theorem lnO_ok {x : Operand} {t : TypeId} {vx : Value} (h : lnO t vx hs = some (v, (L, R), hs')) (hl : L = R) (hx : ev n f x = vx) (k : K v W) : Stp P n ⟨d, .call { callee := .builtin .len, args := #[x], argTypes := #[t] }, ty, pos, af, g⟩ f W Q K := by
 unfold lnO at h
 split at h
 ·next u N hu hs2 =>
  cases hb : isSl P t with
  | false => rw [hb] at h; cases h
  | true =>
   rw [hb] at h
   simp only [cond_true, Option.some.injEq, Prod.mk.injEq] at h
   obtain ⟨rfl, ⟨rfl, rfl⟩, _⟩ := h
   simp only [List.cons.injEq, and_true] at hl
   subst hl
   obtain ⟨ao, cap, rfl⟩ := hu
   unfold isSl at hb
   split at hb
   ·next te ht =>
    refine Stp.run (v := I N) ?_ k
    have he : P.elem t = te := by simp [Program.elem, ht]
    have hu2 : P.underlying t = some (.slice (P.elem t)) := by rw [he]; exact ht
    simp [execOp, hx, resolve, invoke, builtin, Sem.run_bind, run_len_slice (h := hu2), goInt]
   ·cases hb
 ·cases h
theorem yZ (hl : ∀ x v, lk x = some v → ev n f x = v) : ∀ {xs : List Operand} {vs : List Value}, lks lk xs = some vs → xs.map (ev n f) = vs
 | [], vs, h => by simp only [lks, Option.some.injEq] at h; subst h; rfl
 | x :: xs, vs, h => by
  simp only [lks] at h
  obtain ⟨v, hv, h⟩ := Option.bind_eq_some_iff.1 h
  obtain ⟨us, hu, h⟩ := Option.bind_eq_some_iff.1 h
  simp only [Option.some.injEq] at h
  subst h
  rw [List.map_cons, hl x v hv, yZ hl hu]
theorem aB3 (hl : ∀ x v, lk x = some v → ev n f x = v) (h1 : St w0 W rs) (h2 : Below Ws.heap.size Ws W) {o : Op} (h : op1 lk o hs = some (v, (L, R), hs')) (e : L = R) (k : K v W) : Stp P n ⟨d, o, ty, pos, af, g⟩ f W Q K := by
 unfold op1 at h
 split at h
 ·obtain ⟨u, hu, h⟩ := Option.bind_eq_some_iff.1 h
  exact aF (hl _ _ hu) (by rw [sL h]; exact k)
 ·obtain ⟨u, hu, h⟩ := Option.bind_eq_some_iff.1 h
  exact aC (hl _ _ hu) (by rw [sL h]; exact k)
 ·obtain ⟨u, hu, h⟩ := Option.bind_eq_some_iff.1 h
  split at h
  ·obtain ⟨u2, hu2, h⟩ := Option.bind_eq_some_iff.1 h
   exact stp_pick_t (hl _ _ hu) (hl _ _ hu2) (by rw [sL h]; exact k)
  ·obtain ⟨u2, hu2, h⟩ := Option.bind_eq_some_iff.1 h
   exact stp_pick_f (hl _ _ hu) (hl _ _ hu2) (by rw [sL h]; exact k)
  ·cases h
 ·obtain ⟨u, hu, h⟩ := Option.bind_eq_some_iff.1 h
  split at h
  ·exact fW (hl _ _ hu) (by rw [sL h]; exact k)
  ·cases h
 ·obtain ⟨u, hu, h⟩ := Option.bind_eq_some_iff.1 h
  split at h
  ·obtain ⟨off, ho, h⟩ := Option.bind_eq_some_iff.1 h
   exact aH (fOff_ok ho) (hl _ _ hu) (by rw [sL h]; exact k)
  ·cases h
 ·obtain ⟨u, hu, h⟩ := Option.bind_eq_some_iff.1 h
  exact ldO_ok h1 h2 h e (hl _ _ hu) k
 ·obtain ⟨u, hu, h⟩ := Option.bind_eq_some_iff.1 h
  obtain ⟨u2, hu2, h⟩ := Option.bind_eq_some_iff.1 h
  exact ixO_ok h e (hl _ _ hu) (hl _ _ hu2) k
 ·obtain ⟨u, hu, h⟩ := Option.bind_eq_some_iff.1 h
  obtain ⟨u2, hu2, h⟩ := Option.bind_eq_some_iff.1 h
  exact bop_ok h e (hl _ _ hu) (hl _ _ hu2) k
 ·obtain ⟨u, hu, h⟩ := Option.bind_eq_some_iff.1 h
  split at h
  ·rw [kb_ok h e] at k
   exact nU (hl _ _ hu) k
  ·cases h
 ·obtain ⟨u, hu, h⟩ := Option.bind_eq_some_iff.1 h
  split at h
  ·obtain ⟨u2, hu2, h⟩ := Option.bind_eq_some_iff.1 h
   exact iP (hl _ _ hu) hu2 (by rw [sL h]; exact k)
  ·cases h
 ·next b xs ts =>
  obtain ⟨vs, hvs, hz⟩ := Option.bind_eq_some_iff.1 h
  clear h
  have hm := yZ hl hvs
  unfold biO at hz
  split at hz
  ·next vx t hts =>
   obtain ⟨x, hx⟩ : ∃ x, xs = #[x] ∧ ev n f x = vx := by
    match hq : xs.toList, hm with
    | [x], hm => exact ⟨x, by rw [← Array.toArray_toList (xs := xs), hq], by simpa using hm⟩
    | [], hm => simp at hm
    | _ :: _ :: _, hm => simp at hm
   obtain ⟨rfl, hx⟩ := hx
   have : ts = #[t] := by rw [← Array.toArray_toList (xs := ts), hts]
   subst this
   exact lnO_ok hz e hx k
  ·next _ a c =>
   obtain ⟨x, y, rfl, hx, hy⟩ : ∃ x y, xs = #[x, y] ∧ ev n f x = I a ∧ ev n f y = I c := by
    match hq : xs.toList, hm with
    | [x, y], hm => exact ⟨x, y, by rw [← Array.toArray_toList (xs := xs), hq], by simpa using hm⟩
    | [], hm => simp at hm
    | [_], hm => simp at hm
    | _ :: _ :: _ :: _, hm => simp at hm
   exact stp_min hx hy (by rw [sL hz]; exact k)
  ·cases hz
 ·cases h
end
def gdB (n : Nat) (l : List Oper) (E : List (Nat × Value)) (o : Oper) : Option Bool :=
 match o.guard with
 | none => some true
 | some (j, w) => (dA l j).bind fun d => cond (Nat.ble (d + 1) n) ((look E d).bind fun v => some (yl v == some w)) none
def push : Option Tmp → Value → List (Nat × Value) → List (Nat × Value)
 | some d, v, E => (d, v) :: E
 | none, _, E => E
def lkR (n : Nat) (ok : Nat → Nat → Bool) (i : Nat) (E : List (Nat × Value)) : Operand → Option Value
 | .tmp t => cond (ok i t) (lkO n E (.tmp t)) none
 | x => lkO n E x
def aA5 : Nat → Nat → Bool := fun _ _ => true
def okD (l : List Oper) (i t : Nat) : Bool :=
 (List.range i).any (fun j => (match dA l j with | some d => Nat.beq d t | none => false) && dep l i j) || jH l i t
section
variable {P : Program} {w0 Ws : World} {rs : List Res}
def opC (lk : Operand → Option Value) (o : Op) (hs : List (Hn P w0 Ws rs)) : R1 P w0 Ws rs :=
 match o with
 | .call ⟨.value (.func F), xs, _⟩ => match hs with
  | .c F' _ _ _ args v _ :: hs => cond (Nat.beq F F') ((lks lk xs.toList).bind fun vs => some (v, (vs, args), hs)) none
  | _ => none
 | o => op1 lk o hs
def lN (step : (Operand → Option Value) → Op → List (Hn P w0 Ws rs) → R1 P w0 Ws rs) (n : Nat) (l : List Oper) (ok : Nat → Nat → Bool) : List Oper → Nat → Nat → List (Nat × Value) → List (Hn P w0 Ws rs) → Option (List Value × List (Nat × Value) × (List (List Value) × List (List Value)))
 | _, 0, _, E, _ => some ([], E, ([], []))
 | [], _ + 1, _, _, _ => none
 | o :: os, m + 1, i, E, hs => (gdB n l E o).bind fun b => cond b
   ((step (lkR n ok i E) o.op hs).bind fun r => (lN step n l ok os m (i + 1) (push o.dst r.1 E) r.2.2).bind fun q => some (r.1 :: q.1, q.2.1, (r.2.1.1 :: q.2.2.1, r.2.1.2 :: q.2.2.2)))
   ((lN step n l ok os m (i + 1) (push o.dst undef E) hs).bind fun q => some (undef :: q.1, q.2.1, q.2.2))
end
def cut : List Nat → List (Nat × Value) → List (Nat × Value)
 | [], E => E
 | t :: ws, E => cut ws (yL t E)
def tF (b : Bool) (r : Option (List Value × List (Nat × Value) × (List (List Value) × List (List Value)))) (E' : List (Nat × Value)) : Option (List (List Value) × List (Option Value)) :=
 match r with
 | none => cond b none (some ([], []))
 | some q => cond b (some (q.2.2.1, E'.map (fun p => look q.2.1 p.1))) (some (q.2.2.2, E'.map (fun p => some p.2)))
theorem sU {r : Option (List Value × List (Nat × Value) × (List (List Value) × List (List Value)))} {E' : List (Nat × Value)} (h : tF true r E' = tF false r E') : ∃ vs E1 L, r = some (vs, E1, (L, L)) ∧ ∀ f, Ag E1 f → Ag E' f := by
 cases r with
 | none => cases h
 | some q =>
  obtain ⟨vs, E1, L, R⟩ := q
  simp only [tF, cond_true, cond_false, Option.some.injEq, Prod.mk.injEq] at h
  obtain ⟨rfl, h⟩ := h
  exact ⟨vs, E1, L, rfl, fun f hf => hf.to h⟩
section
variable {P : Program} {n : Nat} {f : Nat → Value} {W w0 Ws : World} {rs : List Res} {Q : Exit → Act → World → Prop}
theorem Ag.push {E : List (Nat × Value)} {d : Option Tmp} {v : Value} (h : Ag E f) : Ag (push d v E) (gP f d v) := by
 cases d with
 | none => exact h
 | some d =>
  intro x u hx
  unfold Go.Proofs.YtchnllpegfbleaaGreat.push look at hx
  simp only [gP, upd]
  cases hb : Nat.beq x d with
  | true => rw [hb] at hx; simpa using hx
  | false => rw [hb] at hx; exact h x u hx
theorem aB4 {ok : Nat → Nat → Bool} {i : Nat} {E : List (Nat × Value)} (h : Ag E f) (x : Operand) (v : Value) (e : lkR n ok i E x = some v) : ev n f x = v := by
 cases x with
 | tmp t =>
  simp only [lkR] at e
  cases hb : ok i t with
  | true => rw [hb] at e; exact pI h _ _ e
  | false => rw [hb] at e; cases e
 | const u => exact pI h _ _ e
 | global g => exact pI h _ _ e
 | func g => exact pI h _ _ e
theorem aB2 {lk : Operand → Option Value} {d : Option Tmp} {ty : TypeId} {pos : String} {af : Array Go.Edge} {g : Option (Nat × Bool)} {hs hs' : List (Hn P w0 Ws rs)} {v : Value} {L R : List Value}
  (hl : ∀ x v, lk x = some v → ev n f x = v) (h1 : St w0 W rs) (h2 : Below Ws.heap.size Ws W) {o : Op} (h : opC lk o hs = some (v, (L, R), hs')) (e : L = R) : Stp P n ⟨d, o, ty, pos, af, g⟩ f W Q (fun u W' => u = v ∧ St w0 W' rs ∧ Below W.heap.size W W') := by
 unfold opC at h
 split at h
 ·next F xs ts =>
  split at h
  ·next F' fn hf ho args u hc hs2 =>
   cases hb : Nat.beq F F' with
   | false => rw [hb] at h; cases h
   | true =>
    rw [hb] at h
    simp only [cond_true] at h
    obtain ⟨vs, hvs, h⟩ := Option.bind_eq_some_iff.1 h
    simp only [Option.some.injEq, Prod.mk.injEq] at h
    obtain ⟨rfl, ⟨rfl, rfl⟩, _⟩ := h
    subst e
    have := Nat.eq_of_beq_eq_true hb
    subst this
    have hx := yZ hl hvs
    have hq : xs = xs.toList.toArray := by simp
    rw [hq]
    refine nE hf ho hx ((hc W h1 h2).mono ?_)
    rintro en W' ⟨rfl, hst⟩
    exact ⟨_, rfl, rfl, h1.call hst, hst.below⟩
  ·cases h
 ·exact aB3 hl h1 h2 h e ⟨rfl, h1, Below.refl _ _⟩
theorem gd_on {l rest : List Oper} {E : List (Nat × Value)} {o : Oper} (hA : Ag E f) (hg : gdB n l E o = some true) (h : Stp P n o f W Q (fun v W' => Wl P l.toArray Q rest n (gP f o.dst v) W')) : Wl P l.toArray Q (o :: rest) n f W := by
 unfold gdB at hg
 split at hg
 ·next hn => exact sx hn h
 ·next j w hn =>
  obtain ⟨dd, hd, hg⟩ := Option.bind_eq_some_iff.1 hg
  cases hb : Nat.ble (dd + 1) n with
  | false => rw [hb] at hg; cases hg
  | true =>
   rw [hb] at hg
   obtain ⟨v, hv, hg⟩ := Option.bind_eq_some_iff.1 hg
   simp only [Option.some.injEq] at hg
   refine sx_on hn (dd := dd) ?_ (Nat.le_of_ble_eq_true hb) ?_ h
   ·simpa [dA] using hd
   ·rw [hA dd v hv]; simpa using hg
theorem aB6 {l rest : List Oper} {E : List (Nat × Value)} {o : Oper} (hA : Ag E f) (hg : gdB n l E o = some false) (h : Wl P l.toArray Q rest n (gP f o.dst undef) W) : Wl P l.toArray Q (o :: rest) n f W := by
 unfold gdB at hg
 split at hg
 ·cases hg
 ·next j w hn =>
  obtain ⟨dd, hd, hg⟩ := Option.bind_eq_some_iff.1 hg
  cases hb : Nat.ble (dd + 1) n with
  | false => rw [hb] at hg; cases hg
  | true =>
   rw [hb] at hg
   obtain ⟨v, hv, hg⟩ := Option.bind_eq_some_iff.1 hg
   simp only [Option.some.injEq] at hg
   refine sx_off hn (dd := dd) ?_ (Nat.le_of_ble_eq_true hb) ?_ h
   ·simpa [dA] using hd
   ·rw [hA dd v hv]; exact hg
theorem tH {l : List Oper} {ok : Nat → Nat → Bool} (hst : St w0 W rs) (hbl : Below Ws.heap.size Ws W) : ∀ (m : Nat) {rest : List Oper} {i : Nat} {E E1 : List (Nat × Value)} {f : Nat → Value} {hs : List (Hn P w0 Ws rs)} {vs : List Value} {L R : List (List Value)},
  lN op1 n l ok rest m i E hs = some (vs, E1, (L, R)) → L = R → Ag E f → (∀ f', Ag E1 f' → Wl P l.toArray Q (rest.drop m) n f' W) → Wl P l.toArray Q rest n f W
 | 0, rest, i, E, E1, f, hs, vs, L, R, h, e, hA, k => by
  have h' : some (([] : List Value), E, (([] : List (List Value)), ([] : List (List Value)))) = some (vs, E1, (L, R)) := by cases rest <;> exact h
  simp only [Option.some.injEq, Prod.mk.injEq] at h'
  obtain ⟨_, rfl, _⟩ := h'
  simpa using k f hA
 | m + 1, [], i, E, E1, f, hs, vs, L, R, h, e, hA, k => by simp only [lN] at h; cases h
 | m + 1, o :: os, i, E, E1, f, hs, vs, L, R, h, e, hA, k => by
  simp only [lN] at h
  obtain ⟨b, hg, h⟩ := Option.bind_eq_some_iff.1 h
  cases b with
  | false =>
   simp only [cond_false] at h
   obtain ⟨q, hq, h⟩ := Option.bind_eq_some_iff.1 h
   simp only [Option.some.injEq, Prod.mk.injEq] at h
   obtain ⟨_, rfl, h3⟩ := h
   obtain ⟨qv, qE, qL, qR⟩ := q
   simp only [Prod.mk.injEq] at h3
   exact aB6 hA hg (tH hst hbl m hq (by rw [h3.1, h3.2]; exact e) hA.push (fun f' hf => by simpa using k f' hf))
  | true =>
   simp only [cond_true] at h
   obtain ⟨r, hr, h⟩ := Option.bind_eq_some_iff.1 h
   obtain ⟨q, hq, h⟩ := Option.bind_eq_some_iff.1 h
   simp only [Option.some.injEq, Prod.mk.injEq] at h
   obtain ⟨_, rfl, rfl, rfl⟩ := h
   obtain ⟨rv, ⟨rL, rR⟩, rh⟩ := r
   simp only [List.cons.injEq] at e
   exact gd_on hA hg (aB3 (aB4 hA) hst hbl hr e.1 (tH hst hbl m hq e.2 hA.push (fun f' hf => by simpa using k f' hf)))
theorem tI {l : List Oper} {ok : Nat → Nat → Bool} : ∀ (m : Nat) {rest : List Oper} {i : Nat} {W : World} {E E1 : List (Nat × Value)} {f : Nat → Value} {hs : List (Hn P w0 Ws rs)} {vs : List Value} {L R : List (List Value)}, St w0 W rs → Below Ws.heap.size Ws W →
  lN opC n l ok rest m i E hs = some (vs, E1, (L, R)) → L = R → Ag E f → (∀ f' W', Ag E1 f' → St w0 W' rs → Below Ws.heap.size Ws W' → Wl P l.toArray Q (rest.drop m) n f' W') → Wl P l.toArray Q rest n f W
 | 0, rest, i, W, E, E1, f, hs, vs, L, R, hst, hbl, h, e, hA, k => by
  have h' : some (([] : List Value), E, (([] : List (List Value)), ([] : List (List Value)))) = some (vs, E1, (L, R)) := by cases rest <;> exact h
  simp only [Option.some.injEq, Prod.mk.injEq] at h'
  obtain ⟨_, rfl, _⟩ := h'
  simpa using k f W hA hst hbl
 | m + 1, [], i, W, E, E1, f, hs, vs, L, R, hst, hbl, h, e, hA, k => by simp only [lN] at h; cases h
 | m + 1, o :: os, i, W, E, E1, f, hs, vs, L, R, hst, hbl, h, e, hA, k => by
  simp only [lN] at h
  obtain ⟨b, hg, h⟩ := Option.bind_eq_some_iff.1 h
  cases b with
  | false =>
   simp only [cond_false] at h
   obtain ⟨q, hq, h⟩ := Option.bind_eq_some_iff.1 h
   simp only [Option.some.injEq, Prod.mk.injEq] at h
   obtain ⟨_, rfl, h3⟩ := h
   obtain ⟨qv, qE, qL, qR⟩ := q
   simp only [Prod.mk.injEq] at h3
   exact aB6 hA hg (tI m hst hbl hq (by rw [h3.1, h3.2]; exact e) hA.push (fun f' W' hf => by simpa using k f' W' hf))
  | true =>
   simp only [cond_true] at h
   obtain ⟨r, hr, h⟩ := Option.bind_eq_some_iff.1 h
   obtain ⟨q, hq, h⟩ := Option.bind_eq_some_iff.1 h
   simp only [Option.some.injEq, Prod.mk.injEq] at h
   obtain ⟨_, rfl, rfl, rfl⟩ := h
   obtain ⟨rv, ⟨rL, rR⟩, rh⟩ := r
   simp only [List.cons.injEq] at e
   refine gd_on hA hg ((aB2 (aB4 hA) hst hbl hr e.1).mono ?_)
   rintro u W' ⟨rfl, h1, h2⟩
   exact tI m h1 (hbl.trans (h2.mono hbl.size)) hq e.2 hA.push (fun f' W' hf => by simpa using k f' W' hf)
theorem lw {ops : Array Oper} {rest : List Oper} {E : List (Nat × Value)} (hA : Ag E f) (E' : List (Nat × Value)) (e : E'.map (fun p => look E p.1) = E'.map (fun p => some p.2)) (k : Ag E' f → Wl P ops Q rest n f W) : Wl P ops Q rest n f W := k (hA.to e)
theorem rn {l rest : List Oper} {E : List (Nat × Value)} (hst : St w0 W rs) (m : Nat) (hA : Ag E f) (ws : List Nat) (X : List (Nat × Value)) (hs : List (Hn P w0 W rs)) (h : tF true (lN op1 n l aA5 rest m 0 E hs) (X ++ cut ws E) = tF false (lN op1 n l aA5 rest m 0 E hs) (X ++ cut ws E))
  (k : ∀ f', Ag (X ++ cut ws E) f' → Wl P l.toArray Q (rest.drop m) n f' W) : Wl P l.toArray Q rest n f W := by
 obtain ⟨vs, E1, L, hr, hE⟩ := sU h
 exact tH hst (Below.refl _ _) m hr rfl hA (fun f' hf => k f' (hE f' hf))
theorem rc {l rest : List Oper} {E : List (Nat × Value)} (hst : St w0 W rs) (m : Nat) (hA : Ag E f) (ws : List Nat) (X : List (Nat × Value)) (hs : List (Hn P w0 W rs)) (h : tF true (lN opC n l aA5 rest m 0 E hs) (X ++ cut ws E) = tF false (lN opC n l aA5 rest m 0 E hs) (X ++ cut ws E))
  (k : ∀ f' W', Ag (X ++ cut ws E) f' → St w0 W' rs → Below W.heap.size W W' → Wl P l.toArray Q (rest.drop m) n f' W') : Wl P l.toArray Q rest n f W := by
 obtain ⟨vs, E1, L, hr, hE⟩ := sU h
 exact tI m hst (Below.refl _ _) hr rfl hA (fun f' W' hf => k f' W' (hE f' hf))
/-! ### Regions that draw their order -/
def Pl.any (v : Value) : Pl := ⟨fun u _ => u = v, yl v, fun h _ => h, fun {_ _} e => by rw [e]⟩
def Inl (l : List Oper) (V : List Value) (E0 : List (Nat × Value)) (i : Nat) (E : List (Nat × Value)) : Prop :=
 ∀ t v, look E t = some v → (∃ j, j < i ∧ dA l j = some t ∧ V[j]? = some v) ∨ ((∀ j, j < i → dA l j ≠ some t) ∧ look E0 t = some v)
theorem Inl.push {l : List Oper} {V : List Value} {E0 E : List (Nat × Value)} {o : Oper} {v : Value} (h : Inl l V E0 V.length E) (ho : l[V.length]? = some o) : Inl l (V ++ [v]) E0 (V.length + 1) (push o.dst v E) := by
 have hdo : dA l V.length = o.dst := by simp [dA, ho]
 intro t u hu
 have old : look E t = some u → o.dst ≠ some t → (∃ j, j < V.length + 1 ∧ dA l j = some t ∧ (V ++ [v])[j]? = some u) ∨ ((∀ j, j < V.length + 1 → dA l j ≠ some t) ∧ look E0 t = some u) := by
  intro hu hne
  rcases h t u hu with ⟨j, hj, hd, hv⟩ | ⟨hn, he⟩
  ·exact .inl ⟨j, by omega, hd, by rw [List.getElem?_append_left hj]; exact hv⟩
  ·refine .inr ⟨fun j hj => ?_, he⟩
   by_cases e : j = V.length
   ·subst e; rw [hdo]; exact hne
   ·exact hn j aD
 cases hd : o.dst with
 | none => rw [hd] at hu; exact old hu (by rw [hd]; exact fun e => by cases e)
 | some d =>
  rw [hd] at hu
  unfold Go.Proofs.YtchnllpegfbleaaGreat.push look at hu
  cases hb : Nat.beq t d with
  | true =>
   rw [hb] at hu
   simp only [cond_true, Option.some.injEq] at hu
   subst hu
   refine .inl ⟨V.length, by omega, ?_, by simp⟩
   rw [hdo, hd, Nat.eq_of_beq_eq_true hb]
  | false =>
   rw [hb] at hu
   refine old hu (fun e => ?_)
   rw [hd] at e
   simp only [Option.some.injEq] at e
   rw [e, gB] at hb; cases hb
theorem uE {V : List Value} {j : Nat} {v : Value} (h : V[j]? = some v) : (V.map Pl.any).getD j Pl.off = Pl.any v := by
 rw [List.getD_eq_getElem?_getD, List.getElem?_map, h]; rfl
theorem oL {l : List Oper} {f0 : Nat → Value} {E0 : List (Nat × Value)} (ho : OrdOk n l) (hA : Ag E0 f0) : ∀ (os : List Oper) {V vs : List Value} {E E1 : List (Nat × Value)} {hs : List (Hn P w0 Ws rs)} {L R : List (List Value)},
  (∀ k, os[k]? = l[V.length + k]?) → lN opC n l (okD l) os os.length V.length E hs = some (vs, E1, (L, R)) → L = R → Inl l V E0 V.length E →
  AllSteps P n Ws w0 rs Q l ((V ++ vs).map Pl.any) f0 V.length os (vs.map Pl.any) ∧ Inl l (V ++ vs) E0 (V.length + os.length) E1 ∧ vs.length = os.length
 | [], V, vs, E, E1, hs, L, R, hos, h, e, hI => by
  simp only [List.length_nil, lN, Option.some.injEq, Prod.mk.injEq] at h
  obtain ⟨rfl, rfl, _⟩ := h
  exact ⟨trivial, by simpa using hI, rfl⟩
 | o :: os, V, vs, E, E1, hs, L, R, hos, h, e, hI => by
  have hol : l[V.length]? = some o := by have := hos 0; simpa using this.symm
  have hil : V.length < l.length := (List.getElem?_eq_some_iff.1 hol).1
  simp only [List.length_cons, lN] at h
  obtain ⟨b, hg, h⟩ := Option.bind_eq_some_iff.1 h
  have hon : ∀ us : List Value, tX l ((V ++ us).map Pl.any) o = b := by
   intro us
   unfold gdB at hg
   unfold tX
   split at hg
   ·next hn => simp only [Option.some.injEq] at hg; rw [← hg, hn]
   ·next j w hn =>
    obtain ⟨dd, hd, hg1⟩ := Option.bind_eq_some_iff.1 hg
    cases hb : Nat.ble (dd + 1) n with
    | false => rw [hb] at hg1; cases hg1
    | true =>
     rw [hb] at hg1
     obtain ⟨v, hv, hg2⟩ := Option.bind_eq_some_iff.1 hg1
     simp only [Option.some.injEq] at hg2
     obtain ⟨hdp, dd', hdd'⟩ := ho.guard _ o j w hol hn
     have hji := ho.lt _ _ hil hdp
     rcases hI dd v hv with ⟨j', hj', hd', hv'⟩ | ⟨hno, _⟩
     ·have : j' = j := by
       apply Classical.byContradiction
       intro hne
       exact ho.ne j' j dd aD aD hne hd' hd
      subst this
      rw [hn]
      show ((((V ++ us).map Pl.any).getD j' Pl.off).b == some w) = b
      rw [uE (v := v) (by rw [List.getElem?_append_left hj']; exact hv')]
      exact hg2
     ·exact absurd hd (hno j hji)
  have hlk : ∀ (us : List Value) (f : Nat → Value) (W : World), (∀ j d, dep l V.length j = true → dA l j = some d → (((V ++ us).map Pl.any).getD j Pl.off).p (f d) W) → (∀ t, jH l V.length t = true → f t = f0 t) → ∀ x v, lkR n (okD l) V.length E x = some v → ev n f x = v := by
   intro us f W hd hf x v hx
   cases x with
   | tmp t =>
    simp only [lkR] at hx
    cases hb : okD l V.length t with
    | false => rw [hb] at hx; cases hx
    | true =>
     rw [hb] at hx
     simp only [cond_true, lkO] at hx
     cases hn : Nat.ble (t + 1) n with
     | false => rw [hn] at hx; cases hx
     | true =>
      rw [hn] at hx
      simp only [cond_true] at hx
      simp only [ev, hn, cond_true]
      unfold okD at hb
      rw [Bool.or_eq_true] at hb
      rcases hb with hb | hb
      ·rw [List.any_eq_true] at hb
       obtain ⟨j, hj, hb⟩ := hb
       rw [List.mem_range] at hj
       rw [Bool.and_eq_true] at hb
       have hjd : dA l j = some t := by
        have := hb.1
        split at this
        ·next d hd => rw [hd, Nat.eq_of_beq_eq_true this]
        ·cases this
       rcases hI t v hx with ⟨j', hj', hd', hv'⟩ | ⟨hno, _⟩
       ·have : j' = j := by
         apply Classical.byContradiction
         intro hne
         exact ho.ne j' j t aD aD hne hd' hjd
        subst this
        have := hd j' t hb.2 hjd
        rw [uE (v := v) (by rw [List.getElem?_append_left hj']; exact hv')] at this
        exact this
       ·exact absurd hjd (hno j hj)
      ·rcases hI t v hx with ⟨j', hj', hd', hv'⟩ | ⟨hno, he⟩
       ·exfalso
        unfold jH at hb
        rw [List.all_eq_true] at hb
        have := hb j' (by rw [List.mem_range]; omega)
        rw [hd'] at this
        simp only [gB, Bool.not_true, Bool.or_false, Bool.or_eq_true] at this
        rcases this with h | h
        ·have := Nat.eq_of_beq_eq_true h; omega
        ·have := ho.lt _ _ aD h; omega
       ·rw [hf t hb]; exact hA t v he
   | const u => exact pI (f := f) (E := []) Ag.nil _ _ hx
   | global g => exact pI (f := f) (E := []) Ag.nil _ _ hx
   | func g => exact pI (f := f) (E := []) Ag.nil _ _ hx
  have hos' : ∀ (v : Value) k, os[k]? = l[(V ++ [v]).length + k]? := by
   intro v k
   have := hos (k + 1)
   rw [List.getElem?_cons_succ] at this
   rw [this, List.length_append, List.length_singleton, Nat.add_assoc, Nat.add_comm 1 k]
  cases b with
  | false =>
   simp only [cond_false] at h
   obtain ⟨q, hq, h⟩ := Option.bind_eq_some_iff.1 h
   simp only [Option.some.injEq, Prod.mk.injEq] at h
   obtain ⟨rfl, rfl, h3⟩ := h
   obtain ⟨qv, qE, qL, qR⟩ := q
   simp only [Prod.mk.injEq] at h3
   have hq' : lN opC n l (okD l) os os.length (V ++ [undef]).length (Go.Proofs.YtchnllpegfbleaaGreat.push o.dst undef E) hs = some (qv, qE, (qL, qR)) := by rw [List.length_append, List.length_singleton]; exact hq
   obtain ⟨a1, a2, a3⟩ := oL ho hA os (hos' undef) hq' (by rw [h3.1, h3.2]; exact e) (by have := hI.push (v := undef) hol; rw [List.length_append, List.length_singleton]; exact this)
   simp only [List.append_assoc, List.singleton_append, List.length_append, List.length_singleton] at a1 a2
   refine ⟨⟨fun f W _ _ hd hf => ?_, a1⟩, by rw [List.length_cons, show V.length + (os.length + 1) = V.length + 1 + os.length by omega]; exact a2, by simp [a3]⟩
   rw [hon (undef :: qv)]
   exact rfl
  | true =>
   simp only [cond_true] at h
   obtain ⟨r, hr, h⟩ := Option.bind_eq_some_iff.1 h
   obtain ⟨q, hq, h⟩ := Option.bind_eq_some_iff.1 h
   simp only [Option.some.injEq, Prod.mk.injEq] at h
   obtain ⟨rfl, rfl, rfl, rfl⟩ := h
   obtain ⟨rv, ⟨rL, rR⟩, rh⟩ := r
   obtain ⟨qv, qE, qL, qR⟩ := q
   simp only [List.cons.injEq] at e
   have hq' : lN opC n l (okD l) os os.length (V ++ [rv]).length (Go.Proofs.YtchnllpegfbleaaGreat.push o.dst rv E) rh = some (qv, qE, (qL, qR)) := by rw [List.length_append, List.length_singleton]; exact hq
   obtain ⟨a1, a2, a3⟩ := oL ho hA os (hos' rv) hq' e.2 (by have := hI.push (v := rv) hol; rw [List.length_append, List.length_singleton]; exact this)
   simp only [List.append_assoc, List.singleton_append, List.length_append, List.length_singleton] at a1 a2
   refine ⟨⟨fun f W hst hbl hd hf => ?_, a1⟩, by rw [List.length_cons, show V.length + (os.length + 1) = V.length + 1 + os.length by omega]; exact a2, by simp [a3]⟩
   rw [hon (rv :: qv)]
   exact (aB2 (hlk (rv :: qv) f W hd hf) hst hbl hr e.1).mono (fun u W' hu => ⟨hu.2.2, hu.1⟩)
theorem aA4 {l : List Oper} {V : List Value} {E0 E1 : List (Nat × Value)} {f0 f : Nat → Value} {W : World} (hA : Ag E0 f0) (hI : Inl l V E0 l.length E1) (hv : ∀ i d, i < l.length → dA l i = some d → ((V.map Pl.any).getD i Pl.off).p (f d) W) (hk : ∀ t, iZ l t = true → f t = f0 t) : Ag E1 f := by
 intro t v h
 rcases hI t v h with ⟨j, hj, hd, hvj⟩ | ⟨hn, he⟩
 ·have := hv j t hj hd
  rw [uE hvj] at this
  exact this
 ·rw [hk t ?_]
  ·exact hA t v he
  ·unfold iZ
   rw [List.all_eq_true]
   intro o ho
   obtain ⟨j, hj, rfl⟩ := List.getElem_of_mem ho
   have := hn j hj
   unfold dA at this
   rw [List.getElem?_eq_getElem hj, Option.bind_some] at this
   cases hd : l[j].dst with
   | none => rfl
   | some d =>
    rw [hd] at this
    simp only
    rw [rD (fun e => this (by rw [e]))]
    rfl
theorem rd {id : Nat} {l : List Oper} {f0 : Nat → Value} {E : List (Nat × Value)} (hst : St w0 W rs) (hA : Ag E f0) (ws : List Nat) (X : List (Nat × Value)) (hs : List (Hn P w0 W rs)) (hc : (P.follows .mixedOrders && nI n l) = true)
  (h : tF true (lN opC n l (okD l) l l.length 0 E hs) (X ++ cut ws E) = tF false (lN opC n l (okD l) l l.length 0 E hs) (X ++ cut ws E))
  (k : ∀ f W', Ag (X ++ cut ws E) f → St w0 W' rs → Below W.heap.size W W' → Q .normal (act n f) W') : (Code.region id l.toArray true).wp P Q (act n f0) W := by
 rw [Bool.and_eq_true] at hc
 obtain ⟨vs, E1, L, hr, hE⟩ := sU h
 obtain ⟨a1, a2, a3⟩ := oL (Q := Q) (OrdOk.of hc.2) hA l (V := []) (by simp) hr rfl (fun t v h => .inr ⟨fun j hj => absurd hj (Nat.not_lt_zero j), h⟩)
 exact oZ _ hc.1 hc.2 hst (by simpa using a1) (fun f W' s b hv hk => k f W' (hE f (aA4 hA (by simpa using a2) (by simpa using hv) hk)) s b)
theorem rk {id : Nat} {l : List Oper} {f0 : Nat → Value} {E : List (Nat × Value)} (m : Nat) (hst : St w0 W rs) (hA : Ag E f0) (ws : List Nat) (X : List (Nat × Value)) (hs : List (Hn P w0 W rs)) (hc : (P.follows .mixedOrders && (nI n (l.take m) && kJ (l.take m) (l.drop m))) = true)
  (h : tF true (lN opC n (l.take m) (okD (l.take m)) (l.take m) (l.take m).length 0 E hs) (X ++ cut ws E) = tF false (lN opC n (l.take m) (okD (l.take m)) (l.take m) (l.take m).length 0 E hs) (X ++ cut ws E))
  (k : ∀ f W', Ag (X ++ cut ws E) f → St w0 W' rs → Below W.heap.size W W' → Wl P l.toArray Q (l.drop m) n f W') : (Code.region id l.toArray true).wp P Q (act n f0) W := by
 rw [Bool.and_eq_true, Bool.and_eq_true] at hc
 obtain ⟨vs, E1, L, hr, hE⟩ := sU h
 obtain ⟨a1, a2, a3⟩ := oL (Q := Q) (OrdOk.of hc.2.1) hA (l.take m) (V := []) (by simp) hr rfl (fun t v h => .inr ⟨fun j hj => absurd hj (Nat.not_lt_zero j), h⟩)
 exact sS m _ hc.1 hc.2.1 hc.2.2 hst (by simpa using a1) (fun f W' s b hv hk => k f W' (hE f (aA4 hA (by simpa using a2) (by simpa using hv) hk)) s b)
end
section
variable {P : Program} {n : Nat} {f : Nat → Value} {W : World} {Q : Exit → Act → World → Prop}
def jn (n : Nat) (J : (Nat → Value) → World → Prop) (Q : Exit → Act → World → Prop) : Exit → Act → World → Prop
 | .normal, a, w => ∃ f, a = act n f ∧ J f w
 | e, a, w => Q e a w
theorem wW {id : Nat} {c : Code} (J : (Nat → Value) → World → Prop) (h1 : (Code.block id c).wp P (jn n J Q) (act n f) W) (h2 : ∀ f W, J f W → Q .normal (act n f) W) : (Code.block id c).wp P Q (act n f) W := by
 refine Code.wp_mono ?_ h1
 intro e a w h
 cases e with
 | normal => obtain ⟨g, rfl, hj⟩ := h; exact h2 g w hj
 | exit id => exact h
 | goto l => exact h
 | ret => exact h
 | panic ch => exact h
 | outgrown => exact h
end
section
variable {P : Program} {n : Nat} {f : Nat → Value} {W : World} {Q : Exit → Act → World → Prop}
theorem sx_joinc {c : Code} (J : (Nat → Value) → World → Prop) (h1 : c.wp P (jn n J Q) (act n f) W) (h2 : ∀ f W, J f W → Q .normal (act n f) W) : c.wp P Q (act n f) W := by
 refine Code.wp_mono ?_ h1
 intro e a w h
 cases e with
 | normal => obtain ⟨g, rfl, hj⟩ := h; exact h2 g w hj
 | exit id => exact h
 | goto l => exact h
 | ret => exact h
 | panic ch => exact h
 | outgrown => exact h
end
section
variable {P : Program} {n : Nat} {f : Nat → Value} {W : World} {Q : Exit → Act → World → Prop}
theorem jn_ret {J : (Nat → Value) → World → Prop} {a : Act} {w : World} (h : Q .ret a w) : jn n J Q .ret a w := h
theorem wr {fn : Func} {R : Ending → World → Prop} (h : bodyPost P fn R .ret (act n f) W) (hq : bodyPost P fn R .ret (act n f) W → Q .ret (act n f) W := by intro h_; repeat (first | exact h_ | refine then_ret ?_ | refine blk_ret ?_ | refine jn_ret ?_)) : Code.ret.wp P Q (act n f) W := wp_ret (hq h)
theorem nem (p : Prop) [Decidable p] : ¬ p ∨ p := (Decidable.em p).symm
theorem gR {p : Prop} [Decidable p] (h : ¬ p) : (!decide p) = true := by simp [h]
theorem gS {p : Prop} [Decidable p] (h : p) : (!decide p) = false := by simp [h]
theorem aK {c : Operand} {x y : Code} {p : Prop} [Decidable p] (hc : ev n f c = .bool (decide p)) (ht : p → x.wp P Q (act n f) W) (hf : ¬ p → y.wp P Q (act n f) W) : (Code.cond c x y).wp P Q (act n f) W :=
 cT hc (fun h => ht (of_decide_eq_true h)) (fun h => hf (of_decide_eq_false h))
theorem cB {c : Operand} {x y : Code} {p : Prop} [Decidable p] (hc : ev n f c = .bool (!decide p)) (ht : ¬ p → x.wp P Q (act n f) W) (hf : p → y.wp P Q (act n f) W) : (Code.cond c x y).wp P Q (act n f) W :=
 cT hc (fun h => ht (fun q => by simp [q] at h)) (fun h => hf (by simpa using h))
theorem fB {a b : Bool} (h : a = b) : Ending.returned (.bool a) = .returned (.bool b) := by rw [h]
theorem fI {a b : Int} (h : a = b) : Ending.returned (I a) = .returned (I b) := by rw [h]
end
/-! ### What is told, in short -/
section
variable {P : Program} {w0 Ws : World} {rs : List Res}
def qb (i : Nat) {b : Nat} {cs : List Value} {t : TypeId} (h : rs[i]? = some (Res.bx b cs t)) (j : Nat) : Hn P w0 Ws rs := .m b 0 cs (fun _ s _ => cF (s.get i h)) j
def qw (i : Nat) {b : Nat} {cs : List Value} {t : TypeId} (h : rs[i]? = some (Res.bx b cs t)) {z : Nat} (hl : cs.length = z) : Hn P w0 Ws rs := .w b 0 cs (fun _ s _ => cF (s.get i h)) z hl
theorem range_lent {W : World} {b : Nat} {pre cs post : List Value} {t : TypeId} (h : (Res.bx b (pre ++ cs ++ post) t).holds W) : W.rangeAt b pre.length cs := by
 intro j v hj
 have h1 := cF h (pre.length + j) v (by
  rw [List.append_assoc, List.getElem?_append_right aD, Nat.add_sub_cancel_left, List.getElem?_append_left (List.getElem?_eq_some_iff.1 hj).1]
  exact hj)
 rwa [Nat.zero_add] at h1
def qp (i : Nat) {b : Nat} {pre cs post : List Value} {t : TypeId} (h : rs[i]? = some (Res.bx b (pre ++ cs ++ post) t)) (j : Nat) : Hn P w0 Ws rs := .m b pre.length cs (fun _ s _ => range_lent (s.get i h)) j
def qr {b o : Nat} {cs : List Value} (h : w0.rangeAt b o cs) (j : Nat) : Hn P w0 Ws rs := .m b o cs (fun _ s _ => gC h s.below) j
def qn {b o : Nat} {cs : List Value} (h : Ws.rangeAt b o cs) (j : Nat) : Hn P w0 Ws rs := .m b o cs (fun _ _ q => gC h q) j
def qrw {b o : Nat} {cs : List Value} (h : w0.rangeAt b o cs) {z : Nat} (hl : cs.length = z) : Hn P w0 Ws rs := .w b o cs (fun _ s _ => gC h s.below) z hl
def qtw {w : World} {b o : Nat} {cs : List Value} (h : w.rangeAt b o cs) (hB : Below w.heap.size w Ws) {z : Nat} (hl : cs.length = z) : Hn P w0 Ws rs := .w b o cs (fun _ _ q => gC h (hB.trans (q.mono hB.size))) z hl
def qx {v : Value} {k i b o : Nat} (h : PA v k i b o) : Hn P w0 Ws rs := .x v k i b o h (i : Int) rfl
def qxe {v : Value} {k i b o : Nat} (h : PA v k i b o) {e : Int} (he : e = i) : Hn P w0 Ws rs := .x v k i b o h e he
theorem Sl.lis {α : Type} [Shape α] {w : World} {v : Value} {xs : List α} {fp : List Nat} (h : Sl w v xs fp) : Lis v xs.length := by
 obtain ⟨ao, cap, rfl, _⟩ := h; exact ⟨ao, cap, rfl⟩
def ql {α : Type} [Shape α] {w : World} {v : Value} {xs : List α} {fp : List Nat} (h : Sl w v xs fp) : Hn P w0 Ws rs := .l v xs.length h.lis
def qk {e r : Bool} (h : e = r) : Hn P w0 Ws rs := .k e r h
def qc {F : FuncId} {fn : Func} (hf : P.funcs[F]? = some fn) (ho : ((fn.name == "runtime.NumGoroutine") || fn.body.isNone) = false) {args : List Value} {v : Value} (h : ∀ W, St w0 W rs → Below Ws.heap.size Ws W → Calls P F args.toArray W fun e W' => e = .returned v ∧ St W W' []) : Hn P w0 Ws rs := .c F fn hf ho args v h
def qcb {F : FuncId} {fn : Func} (hf : P.funcs[F]? = some fn) (ho : ((fn.name == "runtime.NumGoroutine") || fn.body.isNone) = false) {args : List Value} {e r : Bool} (hk : e = r) (h : ∀ W, St w0 W rs → Below Ws.heap.size Ws W → Calls P F args.toArray W fun en W' => en = .returned (.bool e) ∧ St W W' []) : Hn P w0 Ws rs := .c F fn hf ho args (.bool r) (fun W a b => (h W a b).mono fun _ _ q => ⟨hk ▸ q.1, q.2⟩)
def qad (x y : Int) (h : I64 (x + y) := by first | (unfold I64; omega) | (simp only [I64] at *; omega)) : Hn P w0 Ws rs := .ad x y h
def qsb (x y : Int) (h : I64 (x - y) := by first | (unfold I64; omega) | (simp only [I64] at *; omega)) : Hn P w0 Ws rs := .sb x y h
def qq (x y : Int) (h : (0 ≤ x ∧ x ≤ 9223372036854775807) ∧ 0 < y := by omega) : Hn P w0 Ws rs := .q x y h
end
theorem toEdge_n (w : World) {x : Edge} {cs : List Value} {fp : List Nat} (hc : Shape.C w cs x fp) :
  Calls Tryz.prog 235 #[.agg cs.toArray] w fun e w' => e = .returned (.agg #[I x.from_, I x.to_]) ∧ x.ok ∧ St w w' [] := by
 refine cR Tryz.func235 rfl Tryz.ntmps235 aX (wp_seq (aA (sg (aJ (cs := cs) rfl (St.start w) ?_)))); intro b1 W2 hb3 st4
 refine sg (aR kX st4 ?_); intro b6 W7 hb8 st9
 refine aB (wp_seq (aA (sg (aR kX st9 ?_)))); intro b11 W12 hb13 st14
 refine aB (wp_seq (aA ?_))
 have hk17 := hc
 obtain ⟨he17, rfl, hok17⟩ := hk17
 have he17 : _ = [I x.from_, I x.to_] := he17
 subst he17
 refine rn st14 3 Ag.nil.put.put.put.put [] [(5, I x.from_), (6, .pointer (some ⟨b11, 0, none⟩))] [qb 2 rfl 0] aE fun f18 h18_ => (sgn (aQ (v := I x.from_) (C' := [I x.from_, I 0]) aE (h18_.at 6) (h18_.at 5) rfl rfl st14 bP rfl ?_)); intro W19 st20
 refine aB (wp_seq (aA (rn st20 3 h18_ [] [(8, I x.to_), (9, .pointer (some ⟨b11, 1, none⟩))] [qb 2 rfl 1] aE fun f22 h22_ => (sgn (aQ (v := I x.to_) (C' := [I x.from_, I x.to_]) aE (h22_.at 9) (h22_.at 8) rfl rfl st20 bP rfl ?_))))); intro W23 st24
 refine aB (wp_seq (aA (sg (aV (cs := [I x.from_, I x.to_]) gA rfl (h22_.at 3) (st24.get 0 rfl) rfl rfl (sgn (aM (cs := [I x.from_, I x.to_]) (C' := [I x.from_, I x.to_]) aE (h22_.at 2) rfl (aG rfl (aG rfl bK)) st24.f1 bP rfl ?_)))))); intro W28 st29
 refine aB (wr (eO gA rfl Tryz.results235 (h22_.at 2) (st29.get 0 rfl) rfl ?_))
 exact ⟨rfl, by assumption, st29.bare⟩
theorem toEdgeS_n (w : World) {v : Value} {xs : List Edge} {fp : List Nat} (h : Sl w v xs fp) (hw : xs.length ≤ 1048576) :
  Calls Tryz.prog 220 #[v] w fun e w' => ∃ (v' : Value) (fp' : List Nat), e = .returned v' ∧ St w w' [Res.own v' xs fp'] := by
 have hl : xs.length ≤ 1048576 := by omega
 refine cR Tryz.func220 rfl Tryz.ntmps220 aX (wp_seq (aA (sg (aC (v := .slice none 0 0) rfl (aB (wp_seq (aA (sg (aF (v := v) rfl (sg (fK sl_EdgeSL rfl h (sg (kL (α := Edge) (N := xs.length) rG rfl rfl aD aD (St.start w) ?_))))))))))))); intro b5 W6 hb7 st8
 refine sg (aC (v := .slice (some ⟨b5, 0, none⟩) xs.length xs.length) rfl (aB (wp_seq (wp_seq (aA (sg (aC (v := I 0) rfl (aB (wp_block (aY (fun (m : Nat) (f : Nat → Value) (W : World) => ∃ (k : Nat) (fe14 : List Nat), k ≤ xs.length ∧ m = xs.length - k ∧ Ag [(0, v), (3, .slice (some ⟨b5, 0, none⟩) xs.length xs.length), (4, I (k : Int))] f ∧ St w W ([Res.fill (α := Edge) 176 b5 xs.length (xs.take k) fe14])) (xs.length - 0) ?_ ?_))))))))))
 ·exact ⟨0, [], (by first | omega | simp), rfl, (Ag.nil.put.put.put.put.put.put.put.to aE), st8⟩
 intro m15 f16 W17 hJ18
 obtain ⟨k, fe14, hcd20_0, rfl, hA20, st19⟩ := hJ18
 refine wp_seq (wp_seq (aA (rn st19 4 hA20 [] [(11, .bool (decide ((k : Int) < (xs.length : Int))))] [ql h, .o] aE fun f22 h22_ => (aB (aK (h22_.at 11) (fun h23p => ?_) (fun h23p => ?_))))))
 ·refine wp_skip (wp_seq (wp_block (aA ?_)))
  have hi51fab : k < xs.length := aD
  have hq_ := idx h (i := k) hi51fab
  obtain ⟨b25, o25, cs25, f25, hp25, hr25, hc25, hm25⟩ := hq_
  refine rn st19 6 h22_ [] [(14, .slice (some ⟨b5, 0, none⟩) xs.length xs.length), (15, I (k : Int)), (19, .agg cs25.toArray)] [qx hp25, qrw hr25 (Shape.len hc25)] aE fun f26 h26_ => (sg (bF Tryz.func235 rfl (h26_.at 19) ((toEdge_n W17 hc25).mono ?_))); rintro _ W27 ⟨rfl, hokf30, hk28⟩; refine ⟨_, rfl, ?_⟩
  have st29 := St.call st19 hk28
  refine sg (aN iG (h26_.at 14) (pL (b := b5) aD) (h26_.at 15) rfl ?_)
  have st31 := st29.cs0 (cs := [I (xs[k]'hi51fab).from_, I (xs[k]'hi51fab).to_]) (x := (xs[k]'hi51fab)) (show Shape.C _ [I (xs[k]'hi51fab).from_, I (xs[k]'hi51fab).to_] (xs[k]'hi51fab) [] from ⟨rfl, rfl, hokf30⟩)
  refine sgn (fP aE rfl (congrArg (fun z => 0 + z * _) (List.length_take_of_le aD).symm) rfl (.inl rfl) st31 (by rw [List.length_take_of_le aD]; omega) ?_); intro W32 st33
  refine aB (aA (rn st33 3 h26_.put.put [4] [(4, I ((k : Int) + 1))] [qad (k : Int) 1] aE fun f35 h35_ => (aB ?_)))
  exact ⟨_, xs.length - (k + 1), aD, rfl, k + 1, fe14 ++ [], aD, rfl, (h35_.to aE), (by rw [List.take_succ_eq_append_getElem aD]; exact st33)⟩
 ·refine wp_exit (wp_seq (aA (sg (aF (v := .slice (some ⟨b5, 0, none⟩) xs.length xs.length) (h22_.at 3) (sg (aC (v := .slice (some ⟨b5, 0, none⟩) xs.length xs.length) rfl (aB (wr (aL Tryz.results220 rfl ?_)))))))))
  obtain rfl : k = xs.length := by omega
  rw [List.take_length] at st19
  have hq_ := st19.full rfl aD
  obtain ⟨fpz, stz⟩ := hq_
  exact ⟨_, fpz, rfl, stz.only 0 rfl⟩
theorem toPlan_n (w : World) {x : Plan} {cs : List Value} {fp : List Nat} (hc : Shape.C w cs x fp) (hw : x.wt ≤ 1048576) :
  Calls Tryz.prog 172 #[.agg cs.toArray] w fun e w' => ∃ (cs' : List Value) (fp' : List Nat), e = .returned (.agg cs'.toArray) ∧ St w w' [Res.own (.agg cs'.toArray) x fp'] := by
 have hw' := hw
 unfold Plan.wt at hw'
 refine cR Tryz.func172 rfl Tryz.ntmps172 aX (wp_seq (aA (sg (aJ (cs := cs) rfl (St.start w) ?_)))); intro b1 W2 hb3 st4
 refine sg (aR sR st4 ?_); intro b6 W7 hb8 st9
 refine aB (wp_seq (aA (sg (aR sR st9 ?_)))); intro b11 W12 hb13 st14
 refine aB (wp_seq (aA ?_))
 have hk17 := hc
 obtain ⟨v17_0, g17_0, rfl, hok17, h17_0, rfl⟩ := hk17
 refine rn st14 3 Ag.nil.put.put.put.put [] [(5, I x.prio), (6, .pointer (some ⟨b11, 0, none⟩))] [qb 2 rfl 0] aE fun f18 h18_ => (sgn (aQ (v := I x.prio) (C' := [I x.prio, I 0, I 0, I 0, .slice none 0 0]) aE (h18_.at 6) (h18_.at 5) rfl rfl st14 bP rfl ?_)); intro W19 st20
 refine aB (wp_seq (aA (rn st20 3 h18_ [] [(8, I x.most), (9, .pointer (some ⟨b11, 1, none⟩))] [qb 2 rfl 1] aE fun f22 h22_ => (sgn (aQ (v := I x.most) (C' := [I x.prio, I x.most, I 0, I 0, .slice none 0 0]) aE (h22_.at 9) (h22_.at 8) rfl rfl st20 bP rfl ?_))))); intro W23 st24
 refine aB (wp_seq (aA (rn st24 3 h22_ [] [(11, I x.wait), (12, .pointer (some ⟨b11, 2, none⟩))] [qb 2 rfl 2] aE fun f26 h26_ => (sgn (aQ (v := I x.wait) (C' := [I x.prio, I x.most, I x.wait, I 0, .slice none 0 0]) aE (h26_.at 12) (h26_.at 11) rfl rfl st24 bP rfl ?_))))); intro W27 st28
 refine aB (wp_seq (aA (rn st28 3 h26_ [] [(14, I x.tasks), (15, .pointer (some ⟨b11, 3, none⟩))] [qb 2 rfl 3] aE fun f30 h30_ => (sgn (aQ (v := I x.tasks) (C' := [I x.prio, I x.most, I x.wait, I x.tasks, .slice none 0 0]) aE (h30_.at 15) (h30_.at 14) rfl rfl st28 bP rfl ?_))))); intro W31 st32
 refine aB (wp_seq (aA (sg (aH fa_PlanL_4 (h30_.at 1) (sg (aU ld_EdgeSL rfl rfl (st32.get 2 rfl) (i := 4) rfl rfl (sg (bF Tryz.func220 rfl rfl ((toEdgeS_n W31 (h17_0.below st32.below) (by first | exact hw | omega | (simp only [Plan.wt, Run.wt, Yard.wt, Deed.wt, Note.wt, File.wt, Disk.wt, Engine.wt, WorldD.wt, ActD.wt, Span.wt, Crew.wt] at *; omega))).mono ?_))))))))); rintro _ W37 ⟨v35, fp35, rfl, hk38⟩; refine ⟨_, rfl, ?_⟩
 have st39 := St.call st32 hk38
 refine sg (aH iT (h30_.at 3) (sgn (aQ (v := v35) (C' := [I x.prio, I x.most, I x.wait, I x.tasks, v35]) aE rfl rfl (Sl.cells (aI (st39.f1.get 1 rfl))) (Sl.one (aI (st39.f1.get 1 rfl))) st39.f1 bP rfl ?_))); intro W44 st45
 refine aB (wp_seq (aA (sg (aV (cs := [I x.prio, I x.most, I x.wait, I x.tasks, v35]) jO rfl (h30_.at 3) (st45.get 0 rfl) rfl rfl (sgn (aM (cs := [I x.prio, I x.most, I x.wait, I x.tasks, v35]) (C' := [I x.prio, I x.most, I x.wait, I x.tasks, v35]) aE (h30_.at 2) rfl (aG rfl (aG rfl (aG rfl (aG rfl (aG (Sl.one (aI (st45.f2.get 2 rfl))) bK))))) st45.f2 bP rfl ?_)))))); intro W49 st50
 refine aB (wr (eO jO rfl Tryz.results172 (h30_.at 2) (st50.get 0 rfl) rfl ?_))
 have st52 := rS (x := x) st50.f2 eS
 exact ⟨_, _, rfl, st52.only 0 rfl⟩
theorem toEntry_n (w : World) {x : Entry} {cs : List Value} {fp : List Nat} (hc : Shape.C w cs x fp) :
  Calls Tryz.prog 171 #[.agg cs.toArray] w fun e w' => e = .returned (.agg #[I x.prio, I x.seq, I x.run, I x.task]) ∧ x.ok ∧ St w w' [] := by
 refine cR Tryz.func171 rfl Tryz.ntmps171 aX (wp_seq (aA (sg (aJ (cs := cs) rfl (St.start w) ?_)))); intro b1 W2 hb3 st4
 refine sg (aR gX st4 ?_); intro b6 W7 hb8 st9
 refine aB (wp_seq (aA (sg (aR gX st9 ?_)))); intro b11 W12 hb13 st14
 refine aB (wp_seq (aA ?_))
 have hk17 := hc
 obtain ⟨he17, rfl, hok17⟩ := hk17
 have he17 : _ = [I x.prio, I x.seq, I x.run, I x.task] := he17
 subst he17
 refine rn st14 3 Ag.nil.put.put.put.put [] [(5, I x.prio), (6, .pointer (some ⟨b11, 0, none⟩))] [qb 2 rfl 0] aE fun f18 h18_ => (sgn (aQ (v := I x.prio) (C' := [I x.prio, I 0, I 0, I 0]) aE (h18_.at 6) (h18_.at 5) rfl rfl st14 bP rfl ?_)); intro W19 st20
 refine aB (wp_seq (aA (rn st20 3 h18_ [] [(8, I x.seq), (9, .pointer (some ⟨b11, 1, none⟩))] [qb 2 rfl 1] aE fun f22 h22_ => (sgn (aQ (v := I x.seq) (C' := [I x.prio, I x.seq, I 0, I 0]) aE (h22_.at 9) (h22_.at 8) rfl rfl st20 bP rfl ?_))))); intro W23 st24
 refine aB (wp_seq (aA (rn st24 3 h22_ [] [(11, I x.run), (12, .pointer (some ⟨b11, 2, none⟩))] [qb 2 rfl 2] aE fun f26 h26_ => (sgn (aQ (v := I x.run) (C' := [I x.prio, I x.seq, I x.run, I 0]) aE (h26_.at 12) (h26_.at 11) rfl rfl st24 bP rfl ?_))))); intro W27 st28
 refine aB (wp_seq (aA (rn st28 3 h26_ [] [(14, I x.task), (15, .pointer (some ⟨b11, 3, none⟩))] [qb 2 rfl 3] aE fun f30 h30_ => (sgn (aQ (v := I x.task) (C' := [I x.prio, I x.seq, I x.run, I x.task]) aE (h30_.at 15) (h30_.at 14) rfl rfl st28 bP rfl ?_))))); intro W31 st32
 refine aB (wp_seq (aA (sg (aV (cs := [I x.prio, I x.seq, I x.run, I x.task]) dN rfl (h30_.at 3) (st32.get 0 rfl) rfl rfl (sgn (aM (cs := [I x.prio, I x.seq, I x.run, I x.task]) (C' := [I x.prio, I x.seq, I x.run, I x.task]) aE (h30_.at 2) rfl (aG rfl (aG rfl (aG rfl (aG rfl bK)))) st32.f1 bP rfl ?_)))))); intro W36 st37
 refine aB (wr (eO dN rfl Tryz.results171 (h30_.at 2) (st37.get 0 rfl) rfl ?_))
 exact ⟨rfl, by assumption, st37.bare⟩
theorem toEntryS_n (w : World) {v : Value} {xs : List Entry} {fp : List Nat} (h : Sl w v xs fp) (hw : xs.length ≤ 1048576) :
  Calls Tryz.prog 106 #[v] w fun e w' => ∃ (v' : Value) (fp' : List Nat), e = .returned v' ∧ St w w' [Res.own v' xs fp'] := by
 have hl : xs.length ≤ 1048576 := by omega
 refine cR Tryz.func106 rfl Tryz.ntmps106 aX (wp_seq (aA (sg (aC (v := .slice none 0 0) rfl (aB (wp_seq (aA (sg (aF (v := v) rfl (sg (fK sl_EntrySL rfl h (sg (kL (α := Entry) (N := xs.length) cA rfl rfl aD aD (St.start w) ?_))))))))))))); intro b5 W6 hb7 st8
 refine sg (aC (v := .slice (some ⟨b5, 0, none⟩) xs.length xs.length) rfl (aB (wp_seq (wp_seq (aA (sg (aC (v := I 0) rfl (aB (wp_block (aY (fun (m : Nat) (f : Nat → Value) (W : World) => ∃ (k : Nat) (fe14 : List Nat), k ≤ xs.length ∧ m = xs.length - k ∧ Ag [(0, v), (3, .slice (some ⟨b5, 0, none⟩) xs.length xs.length), (4, I (k : Int))] f ∧ St w W ([Res.fill (α := Entry) 131 b5 xs.length (xs.take k) fe14])) (xs.length - 0) ?_ ?_))))))))))
 ·exact ⟨0, [], (by first | omega | simp), rfl, (Ag.nil.put.put.put.put.put.put.put.to aE), st8⟩
 intro m15 f16 W17 hJ18
 obtain ⟨k, fe14, hcd20_0, rfl, hA20, st19⟩ := hJ18
 refine wp_seq (wp_seq (aA (rn st19 4 hA20 [] [(11, .bool (decide ((k : Int) < (xs.length : Int))))] [ql h, .o] aE fun f22 h22_ => (aB (aK (h22_.at 11) (fun h23p => ?_) (fun h23p => ?_))))))
 ·refine wp_skip (wp_seq (wp_block (aA ?_)))
  have hi51fab : k < xs.length := aD
  have hq_ := idx h (i := k) hi51fab
  obtain ⟨b25, o25, cs25, f25, hp25, hr25, hc25, hm25⟩ := hq_
  refine rn st19 6 h22_ [] [(14, .slice (some ⟨b5, 0, none⟩) xs.length xs.length), (15, I (k : Int)), (19, .agg cs25.toArray)] [qx hp25, qrw hr25 (Shape.len hc25)] aE fun f26 h26_ => (sg (bF Tryz.func171 rfl (h26_.at 19) ((toEntry_n W17 hc25).mono ?_))); rintro _ W27 ⟨rfl, hokf30, hk28⟩; refine ⟨_, rfl, ?_⟩
  have st29 := St.call st19 hk28
  refine sg (aN sl_EntryS (h26_.at 14) (pL (b := b5) aD) (h26_.at 15) rfl ?_)
  have st31 := st29.cs0 (cs := [I (xs[k]'hi51fab).prio, I (xs[k]'hi51fab).seq, I (xs[k]'hi51fab).run, I (xs[k]'hi51fab).task]) (x := (xs[k]'hi51fab)) (show Shape.C _ [I (xs[k]'hi51fab).prio, I (xs[k]'hi51fab).seq, I (xs[k]'hi51fab).run, I (xs[k]'hi51fab).task] (xs[k]'hi51fab) [] from ⟨rfl, rfl, hokf30⟩)
  refine sgn (fP aE rfl (congrArg (fun z => 0 + z * _) (List.length_take_of_le aD).symm) rfl (.inl rfl) st31 (by rw [List.length_take_of_le aD]; omega) ?_); intro W32 st33
  refine aB (aA (rn st33 3 h26_.put.put [4] [(4, I ((k : Int) + 1))] [qad (k : Int) 1] aE fun f35 h35_ => (aB ?_)))
  exact ⟨_, xs.length - (k + 1), aD, rfl, k + 1, fe14 ++ [], aD, rfl, (h35_.to aE), (by rw [List.take_succ_eq_append_getElem aD]; exact st33)⟩
 ·refine wp_exit (wp_seq (aA (sg (aF (v := .slice (some ⟨b5, 0, none⟩) xs.length xs.length) (h22_.at 3) (sg (aC (v := .slice (some ⟨b5, 0, none⟩) xs.length xs.length) rfl (aB (wr (aL Tryz.results106 rfl ?_)))))))))
  obtain rfl : k = xs.length := by omega
  rw [List.take_length] at st19
  have hq_ := st19.full rfl aD
  obtain ⟨fpz, stz⟩ := hq_
  exact ⟨_, fpz, rfl, stz.only 0 rfl⟩
theorem toTask_n (w : World) {x : Task} {cs : List Value} {fp : List Nat} (hc : Shape.C w cs x fp) :
  Calls Tryz.prog 221 #[.agg cs.toArray] w fun e w' => e = .returned (.agg #[I x.state, I x.need, I x.try_, I x.until_]) ∧ x.ok ∧ St w w' [] := by
 refine cR Tryz.func221 rfl Tryz.ntmps221 aX (wp_seq (aA (sg (aJ (cs := cs) rfl (St.start w) ?_)))); intro b1 W2 hb3 st4
 refine sg (aR kA st4 ?_); intro b6 W7 hb8 st9
 refine aB (wp_seq (aA (sg (aR kA st9 ?_)))); intro b11 W12 hb13 st14
 refine aB (wp_seq (aA ?_))
 have hk17 := hc
 obtain ⟨he17, rfl, hok17⟩ := hk17
 have he17 : _ = [I x.state, I x.need, I x.try_, I x.until_] := he17
 subst he17
 refine rn st14 3 Ag.nil.put.put.put.put [] [(5, I x.state), (6, .pointer (some ⟨b11, 0, none⟩))] [qb 2 rfl 0] aE fun f18 h18_ => (sgn (aQ (v := I x.state) (C' := [I x.state, I 0, I 0, I 0]) aE (h18_.at 6) (h18_.at 5) rfl rfl st14 bP rfl ?_)); intro W19 st20
 refine aB (wp_seq (aA (rn st20 3 h18_ [] [(8, I x.need), (9, .pointer (some ⟨b11, 1, none⟩))] [qb 2 rfl 1] aE fun f22 h22_ => (sgn (aQ (v := I x.need) (C' := [I x.state, I x.need, I 0, I 0]) aE (h22_.at 9) (h22_.at 8) rfl rfl st20 bP rfl ?_))))); intro W23 st24
 refine aB (wp_seq (aA (rn st24 3 h22_ [] [(11, I x.try_), (12, .pointer (some ⟨b11, 2, none⟩))] [qb 2 rfl 2] aE fun f26 h26_ => (sgn (aQ (v := I x.try_) (C' := [I x.state, I x.need, I x.try_, I 0]) aE (h26_.at 12) (h26_.at 11) rfl rfl st24 bP rfl ?_))))); intro W27 st28
 refine aB (wp_seq (aA (rn st28 3 h26_ [] [(14, I x.until_), (15, .pointer (some ⟨b11, 3, none⟩))] [qb 2 rfl 3] aE fun f30 h30_ => (sgn (aQ (v := I x.until_) (C' := [I x.state, I x.need, I x.try_, I x.until_]) aE (h30_.at 15) (h30_.at 14) rfl rfl st28 bP rfl ?_))))); intro W31 st32
 refine aB (wp_seq (aA (sg (aV (cs := [I x.state, I x.need, I x.try_, I x.until_]) kG rfl (h30_.at 3) (st32.get 0 rfl) rfl rfl (sgn (aM (cs := [I x.state, I x.need, I x.try_, I x.until_]) (C' := [I x.state, I x.need, I x.try_, I x.until_]) aE (h30_.at 2) rfl (aG rfl (aG rfl (aG rfl (aG rfl bK)))) st32.f1 bP rfl ?_)))))); intro W36 st37
 refine aB (wr (eO kG rfl Tryz.results221 (h30_.at 2) (st37.get 0 rfl) rfl ?_))
 exact ⟨rfl, by assumption, st37.bare⟩
theorem toTaskS_n (w : World) {v : Value} {xs : List Task} {fp : List Nat} (h : Sl w v xs fp) (hw : xs.length ≤ 1048576) :
  Calls Tryz.prog 173 #[v] w fun e w' => ∃ (v' : Value) (fp' : List Nat), e = .returned v' ∧ St w w' [Res.own v' xs fp'] := by
 have hl : xs.length ≤ 1048576 := by omega
 refine cR Tryz.func173 rfl Tryz.ntmps173 aX (wp_seq (aA (sg (aC (v := .slice none 0 0) rfl (aB (wp_seq (aA (sg (aF (v := v) rfl (sg (fK sl_TaskSL rfl h (sg (kL (α := Task) (N := xs.length) rE rfl rfl aD aD (St.start w) ?_))))))))))))); intro b5 W6 hb7 st8
 refine sg (aC (v := .slice (some ⟨b5, 0, none⟩) xs.length xs.length) rfl (aB (wp_seq (wp_seq (aA (sg (aC (v := I 0) rfl (aB (wp_block (aY (fun (m : Nat) (f : Nat → Value) (W : World) => ∃ (k : Nat) (fe14 : List Nat), k ≤ xs.length ∧ m = xs.length - k ∧ Ag [(0, v), (3, .slice (some ⟨b5, 0, none⟩) xs.length xs.length), (4, I (k : Int))] f ∧ St w W ([Res.fill (α := Task) 140 b5 xs.length (xs.take k) fe14])) (xs.length - 0) ?_ ?_))))))))))
 ·exact ⟨0, [], (by first | omega | simp), rfl, (Ag.nil.put.put.put.put.put.put.put.to aE), st8⟩
 intro m15 f16 W17 hJ18
 obtain ⟨k, fe14, hcd20_0, rfl, hA20, st19⟩ := hJ18
 refine wp_seq (wp_seq (aA (rn st19 4 hA20 [] [(11, .bool (decide ((k : Int) < (xs.length : Int))))] [ql h, .o] aE fun f22 h22_ => (aB (aK (h22_.at 11) (fun h23p => ?_) (fun h23p => ?_))))))
 ·refine wp_skip (wp_seq (wp_block (aA ?_)))
  have hi51fab : k < xs.length := aD
  have hq_ := idx h (i := k) hi51fab
  obtain ⟨b25, o25, cs25, f25, hp25, hr25, hc25, hm25⟩ := hq_
  refine rn st19 6 h22_ [] [(14, .slice (some ⟨b5, 0, none⟩) xs.length xs.length), (15, I (k : Int)), (19, .agg cs25.toArray)] [qx hp25, qrw hr25 (Shape.len hc25)] aE fun f26 h26_ => (sg (bF Tryz.func221 rfl (h26_.at 19) ((toTask_n W17 hc25).mono ?_))); rintro _ W27 ⟨rfl, hokf30, hk28⟩; refine ⟨_, rfl, ?_⟩
  have st29 := St.call st19 hk28
  refine sg (aN jT (h26_.at 14) (pL (b := b5) aD) (h26_.at 15) rfl ?_)
  have st31 := st29.cs0 (cs := [I (xs[k]'hi51fab).state, I (xs[k]'hi51fab).need, I (xs[k]'hi51fab).try_, I (xs[k]'hi51fab).until_]) (x := (xs[k]'hi51fab)) (show Shape.C _ [I (xs[k]'hi51fab).state, I (xs[k]'hi51fab).need, I (xs[k]'hi51fab).try_, I (xs[k]'hi51fab).until_] (xs[k]'hi51fab) [] from ⟨rfl, rfl, hokf30⟩)
  refine sgn (fP aE rfl (congrArg (fun z => 0 + z * _) (List.length_take_of_le aD).symm) rfl (.inl rfl) st31 (by rw [List.length_take_of_le aD]; omega) ?_); intro W32 st33
  refine aB (aA (rn st33 3 h26_.put.put [4] [(4, I ((k : Int) + 1))] [qad (k : Int) 1] aE fun f35 h35_ => (aB ?_)))
  exact ⟨_, xs.length - (k + 1), aD, rfl, k + 1, fe14 ++ [], aD, rfl, (h35_.to aE), (by rw [List.take_succ_eq_append_getElem aD]; exact st33)⟩
 ·refine wp_exit (wp_seq (aA (sg (aF (v := .slice (some ⟨b5, 0, none⟩) xs.length xs.length) (h22_.at 3) (sg (aC (v := .slice (some ⟨b5, 0, none⟩) xs.length xs.length) rfl (aB (wr (aL Tryz.results173 rfl ?_)))))))))
  obtain rfl : k = xs.length := by omega
  rw [List.take_length] at st19
  have hq_ := st19.full rfl aD
  obtain ⟨fpz, stz⟩ := hq_
  exact ⟨_, fpz, rfl, stz.only 0 rfl⟩
theorem toRun_n (w : World) {x : Run} {cs : List Value} {fp : List Nat} (hc : Shape.C w cs x fp) (hw : x.wt ≤ 1048576) :
  Calls Tryz.prog 107 #[.agg cs.toArray] w fun e w' => ∃ (cs' : List Value) (fp' : List Nat), e = .returned (.agg cs'.toArray) ∧ St w w' [Res.own (.agg cs'.toArray) x fp'] := by
 have hw' := hw
 unfold Run.wt at hw'
 refine cR Tryz.func107 rfl Tryz.ntmps107 aX (wp_seq (aA (sg (aJ (cs := cs) rfl (St.start w) ?_)))); intro b1 W2 hb3 st4
 refine sg (aR jV st4 ?_); intro b6 W7 hb8 st9
 refine aB (wp_seq (aA (sg (aR jV st9 ?_)))); intro b11 W12 hb13 st14
 refine aB (wp_seq (aA ?_))
 have hk17 := hc
 obtain ⟨v17_0, v17_1, g17_0, g17_1, rfl, hok17, h17_0, h17_1, rfl⟩ := hk17
 refine rn st14 3 Ag.nil.put.put.put.put [] [(5, I x.id), (6, .pointer (some ⟨b11, 0, none⟩))] [qb 2 rfl 0] aE fun f18 h18_ => (sgn (aQ (v := I x.id) (C' := [I x.id, I 0, I 0, I 0, I 0, .slice none 0 0, I 0, .slice none 0 0]) aE (h18_.at 6) (h18_.at 5) rfl rfl st14 bP rfl ?_)); intro W19 st20
 refine aB (wp_seq (aA (sg (aH fa_RunL_1 (h18_.at 1) (sg (aV (cs := [I x.plan.prio, I x.plan.most, I x.plan.wait, I x.plan.tasks, v17_0]) ld_PlanL rfl rfl (st20.get 2 rfl) rfl rfl (sg (bF Tryz.func172 rfl rfl ((toPlan_n W19 (show Shape.C _ [I x.plan.prio, I x.plan.most, I x.plan.wait, I x.plan.tasks, v17_0] x.plan _ from ⟨_, _, rfl, eS, (h17_0.below st20.below), rfl⟩) (by first | exact hw | omega | (simp only [Plan.wt, Run.wt, Yard.wt, Deed.wt, Note.wt, File.wt, Disk.wt, Engine.wt, WorldD.wt, ActD.wt, Span.wt, Crew.wt] at *; omega))).mono ?_))))))))); rintro _ W25 ⟨cs23, fp23, rfl, hk26⟩; refine ⟨_, rfl, ?_⟩
 have st27 := St.call st20 hk26
 refine sg (aH jU (h18_.at 3) ?_)
 have hq_ := rU st27
 obtain ⟨v31_0, g31_0, he31, hok31, st32⟩ := hq_
 subst he31
 refine sgn (aM (cs := [I x.plan.prio, I x.plan.most, I x.plan.wait, I x.plan.tasks, v31_0]) (C' := [I x.id, I x.plan.prio, I x.plan.most, I x.plan.wait, I x.plan.tasks, v31_0, I 0, .slice none 0 0]) aE rfl rfl (aG rfl (aG rfl (aG rfl (aG rfl (aG (Sl.one (aI (st32.f1.get 1 rfl))) bK))))) st32.f1 bP rfl ?_); intro W35 st36
 refine aB (wp_seq (aA (rn st36 3 h18_.put.put.put.put [] [(12, I x.state), (13, .pointer (some ⟨b11, 6, none⟩))] [qb 3 rfl 6] aE fun f38 h38_ => (sgn (aQ (v := I x.state) (C' := [I x.id, I x.plan.prio, I x.plan.most, I x.plan.wait, I x.plan.tasks, v31_0, I x.state, .slice none 0 0]) aE (h38_.at 13) (h38_.at 12) rfl rfl st36 bP rfl ?_))))); intro W39 st40
 refine aB (wp_seq (aA (sg (aH fa_RunL_3 (h38_.at 1) (sg (aU ld_TaskSL rfl rfl (st40.get 3 rfl) (i := 7) rfl rfl (sg (bF Tryz.func173 rfl rfl ((toTaskS_n W39 (h17_1.below st40.below) (by first | exact hw | omega | (simp only [Plan.wt, Run.wt, Yard.wt, Deed.wt, Note.wt, File.wt, Disk.wt, Engine.wt, WorldD.wt, ActD.wt, Span.wt, Crew.wt] at *; omega))).mono ?_))))))))); rintro _ W45 ⟨v43, fp43, rfl, hk46⟩; refine ⟨_, rfl, ?_⟩
 have st47 := St.call st40 hk46
 refine sg (aH jC (h38_.at 3) (sgn (aQ (v := v43) (C' := [I x.id, I x.plan.prio, I x.plan.most, I x.plan.wait, I x.plan.tasks, v31_0, I x.state, v43]) aE rfl rfl (Sl.cells (aI (st47.f1.get 1 rfl))) (Sl.one (aI (st47.f1.get 1 rfl))) st47.f1 bP rfl ?_))); intro W52 st53
 refine aB (wp_seq (aA (sg (aV (cs := [I x.id, I x.plan.prio, I x.plan.most, I x.plan.wait, I x.plan.tasks, v31_0, I x.state, v43]) eC rfl (h38_.at 3) (st53.get 0 rfl) rfl rfl (sgn (aM (cs := [I x.id, I x.plan.prio, I x.plan.most, I x.plan.wait, I x.plan.tasks, v31_0, I x.state, v43]) (C' := [I x.id, I x.plan.prio, I x.plan.most, I x.plan.wait, I x.plan.tasks, v31_0, I x.state, v43]) aE (h38_.at 2) rfl (aG rfl (aG rfl (aG rfl (aG rfl (aG rfl (aG (Sl.one (aI (st53.f3.get 3 rfl))) (aG rfl (aG (Sl.one (aI (st53.f3.get 2 rfl))) bK)))))))) st53.f3 bP rfl ?_)))))); intro W57 st58
 refine aB (wr (eO eC rfl Tryz.results107 (h38_.at 2) (st58.get 0 rfl) rfl ?_))
 have st61 := iH (x := x) st58.f2.f3 eS
 exact ⟨_, _, rfl, st61.only 0 rfl⟩
theorem toRunS_n (w : World) {v : Value} {xs : List Run} {fp : List Nat} (h : Sl w v xs fp) (hw : wtL (fun y : Run => y.wt) xs ≤ 1048576) :
  Calls Tryz.prog 53 #[v] w fun e w' => ∃ (v' : Value) (fp' : List Nat), e = .returned v' ∧ St w w' [Res.own v' xs fp'] := by
 have hl : xs.length ≤ 1048576 := by unfold wtL at hw; omega
 have hw2 := hw
 unfold wtL at hw2
 refine cR Tryz.func53 rfl Tryz.ntmps53 aX (wp_seq (aA (sg (aC (v := .slice none 0 0) rfl (aB (wp_seq (aA (sg (aF (v := v) rfl (sg (fK sl_RunSL rfl h (sg (kL (α := Run) (N := xs.length) rF rfl rfl aD aD (St.start w) ?_))))))))))))); intro b5 W6 hb7 st8
 refine sg (aC (v := .slice (some ⟨b5, 0, none⟩) xs.length xs.length) rfl (aB (wp_seq (wp_seq (aA (sg (aC (v := I 0) rfl (aB (wp_block (aY (fun (m : Nat) (f : Nat → Value) (W : World) => ∃ (k : Nat) (fe14 : List Nat), k ≤ xs.length ∧ m = xs.length - k ∧ Ag [(0, v), (3, .slice (some ⟨b5, 0, none⟩) xs.length xs.length), (4, I (k : Int))] f ∧ St w W ([Res.fill (α := Run) 123 b5 xs.length (xs.take k) fe14])) (xs.length - 0) ?_ ?_))))))))))
 ·exact ⟨0, [], (by first | omega | simp), rfl, (Ag.nil.put.put.put.put.put.put.put.to aE), st8⟩
 intro m15 f16 W17 hJ18
 obtain ⟨k, fe14, hcd20_0, rfl, hA20, st19⟩ := hJ18
 refine wp_seq (wp_seq (aA (rn st19 4 hA20 [] [(11, .bool (decide ((k : Int) < (xs.length : Int))))] [ql h, .o] aE fun f22 h22_ => (aB (aK (h22_.at 11) (fun h23p => ?_) (fun h23p => ?_))))))
 ·refine wp_skip (wp_seq (wp_block (aA ?_)))
  have hi51fab : k < xs.length := aD
  have hq_ := idx h (i := k) hi51fab
  obtain ⟨b25, o25, cs25, f25, hp25, hr25, hc25, hm25⟩ := hq_
  refine rn st19 6 h22_ [] [(14, .slice (some ⟨b5, 0, none⟩) xs.length xs.length), (15, I (k : Int)), (19, .agg cs25.toArray)] [qx hp25, qrw hr25 (Shape.len hc25)] aE fun f26 h26_ => ?_
  have hwk : xs[k].wt ≤ _ := pO (fun y : Run => y.wt) xs k aD
  refine sg (bF Tryz.func107 rfl (h26_.at 19) ((toRun_n W17 (bA hc25 st19.below) (by first | exact hw | omega | (simp only [Plan.wt, Run.wt, Yard.wt, Deed.wt, Note.wt, File.wt, Disk.wt, Engine.wt, WorldD.wt, ActD.wt, Span.wt, Crew.wt] at *; omega))).mono ?_)); rintro _ W29 ⟨cs27, fp27, rfl, hk30⟩; refine ⟨_, rfl, ?_⟩
  have st31 := St.call st19 hk30
  refine sg (aN iY (h26_.at 14) (pL (b := b5) aD) (h26_.at 15) rfl ?_)
  have st34 := st31.f1.f1.cs rfl
  refine sgn (fP aE rfl (congrArg (fun z => 0 + z * _) (List.length_take_of_le aD).symm) rfl (.inl rfl) st34 (by rw [List.length_take_of_le aD]; omega) ?_); intro W36 st37
  refine aB (aA (rn st37 3 h26_.put.put [4] [(4, I ((k : Int) + 1))] [qad (k : Int) 1] aE fun f39 h39_ => (aB ?_)))
  exact ⟨_, xs.length - (k + 1), aD, rfl, k + 1, fe14 ++ fp27, aD, rfl, (h39_.to aE), (by rw [List.take_succ_eq_append_getElem aD]; exact st37)⟩
 ·refine wp_exit (wp_seq (aA (sg (aF (v := .slice (some ⟨b5, 0, none⟩) xs.length xs.length) (h22_.at 3) (sg (aC (v := .slice (some ⟨b5, 0, none⟩) xs.length xs.length) rfl (aB (wr (aL Tryz.results53 rfl ?_)))))))))
  obtain rfl : k = xs.length := by omega
  rw [List.take_length] at st19
  have hq_ := st19.full rfl aD
  obtain ⟨fpz, stz⟩ := hq_
  exact ⟨_, fpz, rfl, stz.only 0 rfl⟩
theorem toEntrySS_n (w : World) {v : Value} {xs : List (List Entry)} {fp : List Nat} (h : Sl w v xs fp) (hw : wtL (fun y : List Entry => y.length) xs ≤ 1048576) :
  Calls Tryz.prog 52 #[v] w fun e w' => ∃ (v' : Value) (fp' : List Nat), e = .returned v' ∧ St w w' [Res.own v' xs fp'] := by
 have hl : xs.length ≤ 1048576 := by unfold wtL at hw; omega
 have hw2 := hw
 unfold wtL at hw2
 refine cR Tryz.func52 rfl Tryz.ntmps52 aX (wp_seq (aA (sg (aC (v := .slice none 0 0) rfl (aB (wp_seq (aA (sg (aF (v := v) rfl (sg (fK sl_EntrySSL rfl h (sg (kL (α := (List Entry)) (N := xs.length) kW rfl rfl aD aD (St.start w) ?_))))))))))))); intro b5 W6 hb7 st8
 refine sg (aC (v := .slice (some ⟨b5, 0, none⟩) xs.length xs.length) rfl (aB (wp_seq (wp_seq (aA (sg (aC (v := I 0) rfl (aB (wp_block (aY (fun (m : Nat) (f : Nat → Value) (W : World) => ∃ (k : Nat) (fe14 : List Nat), k ≤ xs.length ∧ m = xs.length - k ∧ Ag [(0, v), (3, .slice (some ⟨b5, 0, none⟩) xs.length xs.length), (4, I (k : Int))] f ∧ St w W ([Res.fill (α := (List Entry)) 124 b5 xs.length (xs.take k) fe14])) (xs.length - 0) ?_ ?_))))))))))
 ·exact ⟨0, [], (by first | omega | simp), rfl, (Ag.nil.put.put.put.put.put.put.put.to aE), st8⟩
 intro m15 f16 W17 hJ18
 obtain ⟨k, fe14, hcd20_0, rfl, hA20, st19⟩ := hJ18
 refine wp_seq (wp_seq (aA (rn st19 4 hA20 [] [(11, .bool (decide ((k : Int) < (xs.length : Int))))] [ql h, .o] aE fun f22 h22_ => (aB (aK (h22_.at 11) (fun h23p => ?_) (fun h23p => ?_))))))
 ·refine wp_skip (wp_seq (wp_block (aA ?_)))
  have hi51fab : k < xs.length := aD
  have hq_ := idx h (i := k) hi51fab
  obtain ⟨b25, o25, cs25, f25, hp25, hr25, hc25, hm25⟩ := hq_
  have hk25 := hc25
  obtain ⟨v26, rfl, h27⟩ := hk25
  refine rn st19 6 h22_ [] [(14, .slice (some ⟨b5, 0, none⟩) xs.length xs.length), (15, I (k : Int)), (19, v26)] [qx hp25, qr hr25 0] aE fun f28 h28_ => ?_
  have hwk : xs[k].length ≤ _ := pO (fun y : List Entry => y.length) xs k aD
  refine sg (bF Tryz.func106 rfl (h28_.at 19) ((toEntryS_n W17 (h27.below st19.below) (by first | exact hw | omega | (simp only [Plan.wt, Run.wt, Yard.wt, Deed.wt, Note.wt, File.wt, Disk.wt, Engine.wt, WorldD.wt, ActD.wt, Span.wt, Crew.wt] at *; omega))).mono ?_)); rintro _ W31 ⟨v29, fp29, rfl, hk32⟩; refine ⟨_, rfl, ?_⟩
  have st33 := St.call st19 hk32
  refine sg (aN eM (h28_.at 14) (pL (b := b5) aD) (h28_.at 15) rfl ?_)
  have st36 := st33.f1.f1.cs1
  refine sgn (fP aE rfl (congrArg (fun z => 0 + z * _) (List.length_take_of_le aD).symm) rfl (.inr ⟨rfl, Sl.cells (aI (st33.f1.f1.get 0 rfl))⟩) st36 (by rw [List.length_take_of_le aD]; omega) ?_); intro W38 st39
  refine aB (aA (rn st39 3 h28_.put.put [4] [(4, I ((k : Int) + 1))] [qad (k : Int) 1] aE fun f41 h41_ => (aB ?_)))
  exact ⟨_, xs.length - (k + 1), aD, rfl, k + 1, fe14 ++ fp29, aD, rfl, (h41_.to aE), (by rw [List.take_succ_eq_append_getElem aD]; exact st39)⟩
 ·refine wp_exit (wp_seq (aA (sg (aF (v := .slice (some ⟨b5, 0, none⟩) xs.length xs.length) (h22_.at 3) (sg (aC (v := .slice (some ⟨b5, 0, none⟩) xs.length xs.length) rfl (aB (wr (aL Tryz.results52 rfl ?_)))))))))
  obtain rfl : k = xs.length := by omega
  rw [List.take_length] at st19
  have hq_ := st19.full rfl aD
  obtain ⟨fpz, stz⟩ := hq_
  exact ⟨_, fpz, rfl, stz.only 0 rfl⟩
theorem toYard_n (w : World) {x : Yard} {cs : List Value} {fp : List Nat} (hc : Shape.C w cs x fp) (hw : x.wt ≤ 1048576) :
  Calls Tryz.prog 17 #[.agg cs.toArray] w fun e w' => ∃ (cs' : List Value) (fp' : List Nat), e = .returned (.agg cs'.toArray) ∧ St w w' [Res.own (.agg cs'.toArray) x fp'] := by
 have hw' := hw
 unfold Yard.wt at hw'
 refine cR Tryz.func17 rfl Tryz.ntmps17 aX (wp_seq (aA (sg (aJ (cs := cs) rfl (St.start w) ?_)))); intro b1 W2 hb3 st4
 refine sg (aR fA st4 ?_); intro b6 W7 hb8 st9
 refine aB (wp_seq (aA (sg (aR fA st9 ?_)))); intro b11 W12 hb13 st14
 refine aB (wp_seq (aA ?_))
 have hk17 := hc
 obtain ⟨v17_0, v17_1, g17_0, g17_1, rfl, hok17, h17_0, h17_1, rfl⟩ := hk17
 refine rn st14 3 Ag.nil.put.put.put.put [] [(5, I x.now), (6, .pointer (some ⟨b11, 0, none⟩))] [qb 2 rfl 0] aE fun f18 h18_ => (sgn (aQ (v := I x.now) (C' := [I x.now, I 0, .slice none 0 0, .slice none 0 0]) aE (h18_.at 6) (h18_.at 5) rfl rfl st14 bP rfl ?_)); intro W19 st20
 refine aB (wp_seq (aA (rn st20 3 h18_ [] [(8, I x.seq), (9, .pointer (some ⟨b11, 1, none⟩))] [qb 2 rfl 1] aE fun f22 h22_ => (sgn (aQ (v := I x.seq) (C' := [I x.now, I x.seq, .slice none 0 0, .slice none 0 0]) aE (h22_.at 9) (h22_.at 8) rfl rfl st20 bP rfl ?_))))); intro W23 st24
 refine aB (wp_seq (aA (sg (aH fa_YardL_2 (h22_.at 1) (sg (aU ld_EntrySSL rfl rfl (st24.get 2 rfl) (i := 2) rfl rfl (sg (bF Tryz.func52 rfl rfl ((toEntrySS_n W23 (h17_0.below st24.below) (by first | exact hw | omega | (simp only [Plan.wt, Run.wt, Yard.wt, Deed.wt, Note.wt, File.wt, Disk.wt, Engine.wt, WorldD.wt, ActD.wt, Span.wt, Crew.wt] at *; omega))).mono ?_))))))))); rintro _ W29 ⟨v27, fp27, rfl, hk30⟩; refine ⟨_, rfl, ?_⟩
 have st31 := St.call st24 hk30
 refine sg (aH eE (h22_.at 3) (sgn (aQ (v := v27) (C' := [I x.now, I x.seq, v27, .slice none 0 0]) aE rfl rfl (Sl.cells (aI (st31.f1.get 1 rfl))) (Sl.one (aI (st31.f1.get 1 rfl))) st31.f1 bP rfl ?_))); intro W36 st37
 refine aB (wp_seq (aA (sg (aH fa_YardL_3 (h22_.at 1) (sg (aU ld_RunSL rfl rfl (st37.get 3 rfl) (i := 3) rfl rfl (sg (bF Tryz.func53 rfl rfl ((toRunS_n W36 (h17_1.below st37.below) (by first | exact hw | omega | (simp only [Plan.wt, Run.wt, Yard.wt, Deed.wt, Note.wt, File.wt, Disk.wt, Engine.wt, WorldD.wt, ActD.wt, Span.wt, Crew.wt] at *; omega))).mono ?_))))))))); rintro _ W42 ⟨v40, fp40, rfl, hk43⟩; refine ⟨_, rfl, ?_⟩
 have st44 := St.call st37 hk43
 refine sg (aH gH (h22_.at 3) (sgn (aQ (v := v40) (C' := [I x.now, I x.seq, v27, v40]) aE rfl rfl (Sl.cells (aI (st44.f1.get 1 rfl))) (Sl.one (aI (st44.f1.get 1 rfl))) st44.f1 bP rfl ?_))); intro W49 st50
 refine aB (wp_seq (aA (sg (aV (cs := [I x.now, I x.seq, v27, v40]) bM rfl (h22_.at 3) (st50.get 0 rfl) rfl rfl (sgn (aM (cs := [I x.now, I x.seq, v27, v40]) (C' := [I x.now, I x.seq, v27, v40]) aE (h22_.at 2) rfl (aG rfl (aG rfl (aG (Sl.one (aI (st50.f3.get 3 rfl))) (aG (Sl.one (aI (st50.f3.get 2 rfl))) bK)))) st50.f3 bP rfl ?_)))))); intro W54 st55
 refine aB (wr (eO bM rfl Tryz.results17 (h22_.at 2) (st55.get 0 rfl) rfl ?_))
 have st58 := eN (x := x) st55.f2.f3 eS
 exact ⟨_, _, rfl, st58.only 0 rfl⟩
theorem toReply_n (w : World) {x : Reply} {cs : List Value} {fp : List Nat} (hc : Shape.C w cs x fp) :
  Calls Tryz.prog 94 #[.agg cs.toArray] w fun e w' => e = .returned (.agg #[I x.code, I x.run, I x.task, I x.try_]) ∧ x.ok ∧ St w w' [] := by
 refine cR Tryz.func94 rfl Tryz.ntmps94 aX (wp_seq (aA (sg (aJ (cs := cs) rfl (St.start w) ?_)))); intro b1 W2 hb3 st4
 refine sg (aR iV st4 ?_); intro b6 W7 hb8 st9
 refine aB (wp_seq (aA (sg (aR iV st9 ?_)))); intro b11 W12 hb13 st14
 refine aB (wp_seq (aA ?_))
 have hk17 := hc
 obtain ⟨he17, rfl, hok17⟩ := hk17
 have he17 : _ = [I x.code, I x.run, I x.task, I x.try_] := he17
 subst he17
 refine rn st14 3 Ag.nil.put.put.put.put [] [(5, I x.code), (6, .pointer (some ⟨b11, 0, none⟩))] [qb 2 rfl 0] aE fun f18 h18_ => (sgn (aQ (v := I x.code) (C' := [I x.code, I 0, I 0, I 0]) aE (h18_.at 6) (h18_.at 5) rfl rfl st14 bP rfl ?_)); intro W19 st20
 refine aB (wp_seq (aA (rn st20 3 h18_ [] [(8, I x.run), (9, .pointer (some ⟨b11, 1, none⟩))] [qb 2 rfl 1] aE fun f22 h22_ => (sgn (aQ (v := I x.run) (C' := [I x.code, I x.run, I 0, I 0]) aE (h22_.at 9) (h22_.at 8) rfl rfl st20 bP rfl ?_))))); intro W23 st24
 refine aB (wp_seq (aA (rn st24 3 h22_ [] [(11, I x.task), (12, .pointer (some ⟨b11, 2, none⟩))] [qb 2 rfl 2] aE fun f26 h26_ => (sgn (aQ (v := I x.task) (C' := [I x.code, I x.run, I x.task, I 0]) aE (h26_.at 12) (h26_.at 11) rfl rfl st24 bP rfl ?_))))); intro W27 st28
 refine aB (wp_seq (aA (rn st28 3 h26_ [] [(14, I x.try_), (15, .pointer (some ⟨b11, 3, none⟩))] [qb 2 rfl 3] aE fun f30 h30_ => (sgn (aQ (v := I x.try_) (C' := [I x.code, I x.run, I x.task, I x.try_]) aE (h30_.at 15) (h30_.at 14) rfl rfl st28 bP rfl ?_))))); intro W31 st32
 refine aB (wp_seq (aA (sg (aV (cs := [I x.code, I x.run, I x.task, I x.try_]) fZ rfl (h30_.at 3) (st32.get 0 rfl) rfl rfl (sgn (aM (cs := [I x.code, I x.run, I x.task, I x.try_]) (C' := [I x.code, I x.run, I x.task, I x.try_]) aE (h30_.at 2) rfl (aG rfl (aG rfl (aG rfl (aG rfl bK)))) st32.f1 bP rfl ?_)))))); intro W36 st37
 refine aB (wr (eO fZ rfl Tryz.results94 (h30_.at 2) (st37.get 0 rfl) rfl ?_))
 exact ⟨rfl, by assumption, st37.bare⟩
theorem toReplyS_n (w : World) {v : Value} {xs : List Reply} {fp : List Nat} (h : Sl w v xs fp) (hw : xs.length ≤ 1048576) :
  Calls Tryz.prog 45 #[v] w fun e w' => ∃ (v' : Value) (fp' : List Nat), e = .returned v' ∧ St w w' [Res.own v' xs fp'] := by
 have hl : xs.length ≤ 1048576 := by omega
 refine cR Tryz.func45 rfl Tryz.ntmps45 aX (wp_seq (aA (sg (aC (v := .slice none 0 0) rfl (aB (wp_seq (aA (sg (aF (v := v) rfl (sg (fK sl_ReplySL rfl h (sg (kL (α := Reply) (N := xs.length) oK rfl rfl aD aD (St.start w) ?_))))))))))))); intro b5 W6 hb7 st8
 refine sg (aC (v := .slice (some ⟨b5, 0, none⟩) xs.length xs.length) rfl (aB (wp_seq (wp_seq (aA (sg (aC (v := I 0) rfl (aB (wp_block (aY (fun (m : Nat) (f : Nat → Value) (W : World) => ∃ (k : Nat) (fe14 : List Nat), k ≤ xs.length ∧ m = xs.length - k ∧ Ag [(0, v), (3, .slice (some ⟨b5, 0, none⟩) xs.length xs.length), (4, I (k : Int))] f ∧ St w W ([Res.fill (α := Reply) 75 b5 xs.length (xs.take k) fe14])) (xs.length - 0) ?_ ?_))))))))))
 ·exact ⟨0, [], (by first | omega | simp), rfl, (Ag.nil.put.put.put.put.put.put.put.to aE), st8⟩
 intro m15 f16 W17 hJ18
 obtain ⟨k, fe14, hcd20_0, rfl, hA20, st19⟩ := hJ18
 refine wp_seq (wp_seq (aA (rn st19 4 hA20 [] [(11, .bool (decide ((k : Int) < (xs.length : Int))))] [ql h, .o] aE fun f22 h22_ => (aB (aK (h22_.at 11) (fun h23p => ?_) (fun h23p => ?_))))))
 ·refine wp_skip (wp_seq (wp_block (aA ?_)))
  have hi51fab : k < xs.length := aD
  have hq_ := idx h (i := k) hi51fab
  obtain ⟨b25, o25, cs25, f25, hp25, hr25, hc25, hm25⟩ := hq_
  refine rn st19 6 h22_ [] [(14, .slice (some ⟨b5, 0, none⟩) xs.length xs.length), (15, I (k : Int)), (19, .agg cs25.toArray)] [qx hp25, qrw hr25 (Shape.len hc25)] aE fun f26 h26_ => (sg (bF Tryz.func94 rfl (h26_.at 19) ((toReply_n W17 hc25).mono ?_))); rintro _ W27 ⟨rfl, hokf30, hk28⟩; refine ⟨_, rfl, ?_⟩
  have st29 := St.call st19 hk28
  refine sg (aN lT (h26_.at 14) (pL (b := b5) aD) (h26_.at 15) rfl ?_)
  have st31 := st29.cs0 (cs := [I (xs[k]'hi51fab).code, I (xs[k]'hi51fab).run, I (xs[k]'hi51fab).task, I (xs[k]'hi51fab).try_]) (x := (xs[k]'hi51fab)) (show Shape.C _ [I (xs[k]'hi51fab).code, I (xs[k]'hi51fab).run, I (xs[k]'hi51fab).task, I (xs[k]'hi51fab).try_] (xs[k]'hi51fab) [] from ⟨rfl, rfl, hokf30⟩)
  refine sgn (fP aE rfl (congrArg (fun z => 0 + z * _) (List.length_take_of_le aD).symm) rfl (.inl rfl) st31 (by rw [List.length_take_of_le aD]; omega) ?_); intro W32 st33
  refine aB (aA (rn st33 3 h26_.put.put [4] [(4, I ((k : Int) + 1))] [qad (k : Int) 1] aE fun f35 h35_ => (aB ?_)))
  exact ⟨_, xs.length - (k + 1), aD, rfl, k + 1, fe14 ++ [], aD, rfl, (h35_.to aE), (by rw [List.take_succ_eq_append_getElem aD]; exact st33)⟩
 ·refine wp_exit (wp_seq (aA (sg (aF (v := .slice (some ⟨b5, 0, none⟩) xs.length xs.length) (h22_.at 3) (sg (aC (v := .slice (some ⟨b5, 0, none⟩) xs.length xs.length) rfl (aB (wr (aL Tryz.results45 rfl ?_)))))))))
  obtain rfl : k = xs.length := by omega
  rw [List.take_length] at st19
  have hq_ := st19.full rfl aD
  obtain ⟨fpz, stz⟩ := hq_
  exact ⟨_, fpz, rfl, stz.only 0 rfl⟩
theorem pS (w : World) {x : Crew} {cs : List Value} {fp : List Nat} (hc : Shape.C w cs x fp) (hw : x.wt ≤ 1048576) :
  Calls Tryz.prog 12 #[.agg cs.toArray] w fun e w' => ∃ (cs' : List Value) (fp' : List Nat), e = .returned (.agg cs'.toArray) ∧ St w w' [Res.own (.agg cs'.toArray) x fp'] := by
 have hw' := hw
 unfold Crew.wt at hw'
 refine cR Tryz.func12 rfl Tryz.ntmps12 aX (wp_seq (aA (sg (aJ (cs := cs) rfl (St.start w) ?_)))); intro b1 W2 hb3 st4
 refine sg (aR gD st4 ?_); intro b6 W7 hb8 st9
 refine aB (wp_seq (aA (sg (aR gD st9 ?_)))); intro b11 W12 hb13 st14
 refine aB (wp_seq (aA ?_))
 have hk17 := hc
 obtain ⟨v17_0, v17_1, v17_2, g17_0, g17_1, g17_2, rfl, hok17, h17_0, h17_1, h17_2, rfl⟩ := hk17
 refine sg (aH fa_CrewL_0 rfl (sg (aV (cs := [I x.yard.now, I x.yard.seq, v17_0, v17_1]) ld_YardL rfl rfl (st14.get 2 rfl) rfl rfl (sg (bF Tryz.func17 rfl rfl ((toYard_n W12 (show Shape.C _ [I x.yard.now, I x.yard.seq, v17_0, v17_1] x.yard _ from ⟨_, _, _, _, rfl, eS, (h17_0.below st14.below), (h17_1.below st14.below), rfl⟩) (by first | exact hw | omega | (simp only [Plan.wt, Run.wt, Yard.wt, Deed.wt, Note.wt, File.wt, Disk.wt, Engine.wt, WorldD.wt, ActD.wt, Span.wt, Crew.wt] at *; omega))).mono ?_)))))); rintro _ W21 ⟨cs19, fp19, rfl, hk22⟩; refine ⟨_, rfl, ?_⟩
 have st23 := St.call st14 hk22
 refine sg (aH kI rfl ?_)
 have hq_ := eB st23
 obtain ⟨v27_0, v27_1, g27_0, g27_1, he27, hok27, st28⟩ := hq_
 subst he27
 refine sgn (aM (cs := [I x.yard.now, I x.yard.seq, v27_0, v27_1]) (C' := [I x.yard.now, I x.yard.seq, v27_0, v27_1, .slice none 0 0, I 0, I 0]) aE rfl rfl (aG rfl (aG rfl (aG (Sl.one (aI (st28.f2.get 1 rfl))) (aG (Sl.one (aI (st28.f2.get 2 rfl))) bK)))) st28.f2 bP rfl ?_); intro W32 st33
 refine aB (wp_seq (aA (sg (aH fa_CrewL_1 rfl (sg (aU ld_ReplySL rfl rfl (st33.get 4 rfl) (i := 4) rfl rfl (sg (bF Tryz.func45 rfl rfl ((toReplyS_n W32 (h17_2.below st33.below) (by first | exact hw | omega | (simp only [Plan.wt, Run.wt, Yard.wt, Deed.wt, Note.wt, File.wt, Disk.wt, Engine.wt, WorldD.wt, ActD.wt, Span.wt, Crew.wt] at *; omega))).mono ?_))))))))); rintro _ W38 ⟨v36, fp36, rfl, hk39⟩; refine ⟨_, rfl, ?_⟩
 have st40 := St.call st33 hk39
 refine sg (aH lY rfl (sgn (aQ (v := v36) (C' := [I x.yard.now, I x.yard.seq, v27_0, v27_1, v36, I 0, I 0]) aE rfl rfl (Sl.cells (aI (st40.f1.get 1 rfl))) (Sl.one (aI (st40.f1.get 1 rfl))) st40.f1 bP rfl ?_))); intro W45 st46
 refine aB (wp_seq (aA (rn st46 3 Ag.nil.put.put.put.put.put.put.put.put.put.put.put.put [] [(13, I x.turns), (14, .pointer (some ⟨b11, 5, none⟩))] [qb 5 rfl 5] aE fun f48 h48_ => (sgn (aQ (v := I x.turns) (C' := [I x.yard.now, I x.yard.seq, v27_0, v27_1, v36, I x.turns, I 0]) aE (h48_.at 14) (h48_.at 13) rfl rfl st46 bP rfl ?_))))); intro W49 st50
 refine aB (wp_seq (aA (rn st50 3 h48_ [] [(16, I x.did), (17, .pointer (some ⟨b11, 6, none⟩))] [qb 5 rfl 6] aE fun f52 h52_ => (sgn (aQ (v := I x.did) (C' := [I x.yard.now, I x.yard.seq, v27_0, v27_1, v36, I x.turns, I x.did]) aE (h52_.at 17) (h52_.at 16) rfl rfl st50 bP rfl ?_))))); intro W53 st54
 refine aB (wp_seq (aA (sg (aV (cs := [I x.yard.now, I x.yard.seq, v27_0, v27_1, v36, I x.turns, I x.did]) bT rfl (h52_.at 3) (st54.get 0 rfl) rfl rfl (sgn (aM (cs := [I x.yard.now, I x.yard.seq, v27_0, v27_1, v36, I x.turns, I x.did]) (C' := [I x.yard.now, I x.yard.seq, v27_0, v27_1, v36, I x.turns, I x.did]) aE (h52_.at 2) rfl (aG rfl (aG rfl (aG (Sl.one (aI (st54.f4.get 3 rfl))) (aG (Sl.one (aI (st54.f4.get 4 rfl))) (aG (Sl.one (aI (st54.f4.get 2 rfl))) (aG rfl (aG rfl bK))))))) st54.f4 bP rfl ?_)))))); intro W58 st59
 refine aB (wr (eO bT rfl Tryz.results12 (h52_.at 2) (st59.get 0 rfl) rfl ?_))
 have st63 := fV (x := x) st59.f2.f4.f4 eS
 exact ⟨_, _, rfl, st63.only 0 rfl⟩
theorem pR (w : World) {v : Value} {xs : List Int} {fp : List Nat} (h : Sl w v xs fp) (hw : xs.length ≤ 1048576) :
  Calls Tryz.prog 24 #[v] w fun e w' => ∃ (v' : Value) (fp' : List Nat), e = .returned v' ∧ St w w' [Res.own v' xs fp'] := by
 have hl : xs.length ≤ 1048576 := by omega
 refine cR Tryz.func24 rfl Tryz.ntmps24 aX (wp_seq (aA (sg (aC (v := .slice none 0 0) rfl (aB (wp_seq (aA (sg (aF (v := v) rfl (sg (fK eP rfl h (sg (kL (α := Int) (N := xs.length) cZ rfl rfl aD aD (St.start w) ?_))))))))))))); intro b5 W6 hb7 st8
 refine sg (aC (v := .slice (some ⟨b5, 0, none⟩) xs.length xs.length) rfl (aB (wp_seq (wp_seq (aA (sg (aC (v := I 0) rfl (aB (wp_block (aY (fun (m : Nat) (f : Nat → Value) (W : World) => ∃ (k : Nat) (fe14 : List Nat), k ≤ xs.length ∧ m = xs.length - k ∧ Ag [(0, v), (3, .slice (some ⟨b5, 0, none⟩) xs.length xs.length), (4, I (k : Int))] f ∧ St w W ([Res.fill (α := Int) 3 b5 xs.length (xs.take k) fe14])) (xs.length - 0) ?_ ?_))))))))))
 ·exact ⟨0, [], (by first | omega | simp), rfl, (Ag.nil.put.put.put.put.put.put.put.to aE), st8⟩
 intro m15 f16 W17 hJ18
 obtain ⟨k, fe14, hcd20_0, rfl, hA20, st19⟩ := hJ18
 refine wp_seq (wp_seq (aA (rn st19 4 hA20 [] [(11, .bool (decide ((k : Int) < (xs.length : Int))))] [ql h, .o] aE fun f22 h22_ => (aB (aK (h22_.at 11) (fun h23p => ?_) (fun h23p => ?_))))))
 ·refine wp_skip (wp_seq (wp_block (aA ?_)))
  have hi51fab : k < xs.length := aD
  have hq_ := idx h (i := k) hi51fab
  obtain ⟨b25, o25, cs25, f25, hp25, hr25, hc25, hm25⟩ := hq_
  have hk25 := hc25
  obtain ⟨rfl, rfl, hok25⟩ := hk25
  refine rn st19 6 h22_ [] [(14, .slice (some ⟨b5, 0, none⟩) xs.length xs.length), (15, I (k : Int)), (19, I (xs[k]'hi51fab))] [qx hp25, qr hr25 0] aE fun f26 h26_ => (sg (aN eP (h26_.at 14) (pL (b := b5) aD) (h26_.at 15) rfl ?_))
  have st27 := st19.cs0 (cs := [I (xs[k]'hi51fab)]) (x := (xs[k]'hi51fab)) ⟨rfl, rfl, dX⟩
  refine sgn (fP aE rfl (congrArg (fun z => 0 + z * _) (List.length_take_of_le aD).symm) (h26_.at 19) (.inr ⟨rfl, rfl⟩) st27 (by rw [List.length_take_of_le aD]; omega) ?_); intro W28 st29
  refine aB (aA (rn st29 3 h26_.put [4] [(4, I ((k : Int) + 1))] [qad (k : Int) 1] aE fun f31 h31_ => (aB ?_)))
  exact ⟨_, xs.length - (k + 1), aD, rfl, k + 1, fe14 ++ [], aD, rfl, (h31_.to aE), (by rw [List.take_succ_eq_append_getElem aD]; exact st29)⟩
 ·refine wp_exit (wp_seq (aA (sg (aF (v := .slice (some ⟨b5, 0, none⟩) xs.length xs.length) (h22_.at 3) (sg (aC (v := .slice (some ⟨b5, 0, none⟩) xs.length xs.length) rfl (aB (wr (aL Tryz.results24 rfl ?_)))))))))
  obtain rfl : k = xs.length := by omega
  rw [List.take_length] at st19
  have hq_ := st19.full rfl aD
  obtain ⟨fpz, stz⟩ := hq_
  exact ⟨_, fpz, rfl, stz.only 0 rfl⟩
theorem lL {l : Int} {n : Nat} (h : szL l n < 0) (hl : 0 ≤ l) : l < n := by
 unfold szL at h; split at h <;> omega
theorem lM {l : Int} {n : Nat} (h : ¬ szL l n < 0) (hl : 0 ≤ l) : (n : Int) ≤ l ∧ szL l n = l - n := by
 unfold szL at *; split at h <;> simp_all <;> omega

theorem szEdgeS_n (w : World) {v : Value} {xs : List Edge} {fp : List Nat} (h : Sl w v xs fp) (l : Int) (hl : 0 ≤ l) (hl2 : l ≤ 1048576) :
  Calls Tryz.prog 218 #[v, I l] w fun e w' => e = .returned (I (szL l xs.length)) ∧ St w w' [] := by
 have hcap := h.len_le
 refine bR Tryz.func218 rfl Tryz.ntmps218 aX (wp_seq (aA (sg (aC (v := I 0) rfl (aB (wp_seq (aA (rn (St.start w) 5 Ag.nil.put.put.put [1] [(1, I (l - (xs.length : Int)))] [ql h, qsb l (xs.length : Int)] aE fun f4 h4_ => (aB (wp_seq (wp_seq (aA ?_))))))))))))
 refine sg (aF (v := I (l - (xs.length : Int))) (h4_.at 1) (sg (bS rfl rfl (aB (aK rfl (fun h7p => ?_) (fun h7p => ?_))))))
 ·refine wp_seq (aA (sg (aC (v := I (-1)) rfl (aB (wr (aL Tryz.results218 rfl ?_))))))
  exact ⟨fI (kK aD).symm, (St.start w).bare⟩
 ·refine wp_skip (wp_seq (aA (sg (aF (v := I (l - (xs.length : Int))) (h4_.at 1) (sg (aC (v := I (l - (xs.length : Int))) rfl (aB (wr (aL Tryz.results218 rfl ?_)))))))))
  exact ⟨fI (by rw [oP aD]; try omega), (St.start w).bare⟩
theorem szPlan_n (w : World) {x : Plan} {cs : List Value} {fp : List Nat} (hc : Shape.C w cs x fp) (l : Int) (hl : 0 ≤ l) (hl2 : l ≤ 1048576) :
  Calls Tryz.prog 166 #[.agg cs.toArray, I l] w fun e w' => e = .returned (I (szL l x.wt)) ∧ St w w' [] := by
 have hwt : x.wt = x.edges.length := rfl
 refine bR Tryz.func166 rfl Tryz.ntmps166 aX (wp_seq (aA (sg (aJ (cs := cs) rfl (St.start w) ?_)))); intro b1 W2 hb3 st4
 refine sg (aC (v := I 0) rfl (aB (wp_seq (aA ?_))))
 have hk9 := hc
 obtain ⟨v9_0, g9_0, rfl, hok9, h9_0, rfl⟩ := hk9
 refine rc st4 5 Ag.nil.put.put.put.put [1] [(1, I (szL l x.edges.length))] [qb 0 rfl 4, qc Tryz.func218 rfl (fun W s b => szEdgeS_n W (h9_0.below s.below) l aD aD)] aE fun f10 W11 h10_ st12 hb13 => (aB (wp_seq (wp_seq (aA (sg (aF (v := I (szL l x.edges.length)) (h10_.at 1) (sg (bS rfl rfl (aB (aK rfl (fun h16p => ?_) (fun h16p => ?_)))))))))))
 ·have h16q := lL h16p aD
  refine wp_seq (aA (sg (aC (v := I (-1)) rfl (aB (wr (aL Tryz.results166 rfl ?_))))))
  exact ⟨fI (kK aD).symm, st12.bare⟩
 ·have h16q := lM h16p aD
  refine wp_skip (wp_seq (aA (sg (aF (v := I (szL l x.edges.length)) (h10_.at 1) (sg (aC (v := I (szL l x.edges.length)) rfl (aB (wr (aL Tryz.results166 rfl ?_)))))))))
  exact ⟨fI (by rw [oP (n := x.wt) aD]; try omega), st12.bare⟩
theorem szEntryS_n (w : World) {v : Value} {xs : List Entry} {fp : List Nat} (h : Sl w v xs fp) (l : Int) (hl : 0 ≤ l) (hl2 : l ≤ 1048576) :
  Calls Tryz.prog 102 #[v, I l] w fun e w' => e = .returned (I (szL l xs.length)) ∧ St w w' [] := by
 have hcap := h.len_le
 refine bR Tryz.func102 rfl Tryz.ntmps102 aX (wp_seq (aA (sg (aC (v := I 0) rfl (aB (wp_seq (aA (rn (St.start w) 5 Ag.nil.put.put.put [1] [(1, I (l - (xs.length : Int)))] [ql h, qsb l (xs.length : Int)] aE fun f4 h4_ => (aB (wp_seq (wp_seq (aA ?_))))))))))))
 refine sg (aF (v := I (l - (xs.length : Int))) (h4_.at 1) (sg (bS rfl rfl (aB (aK rfl (fun h7p => ?_) (fun h7p => ?_))))))
 ·refine wp_seq (aA (sg (aC (v := I (-1)) rfl (aB (wr (aL Tryz.results102 rfl ?_))))))
  exact ⟨fI (kK aD).symm, (St.start w).bare⟩
 ·refine wp_skip (wp_seq (aA (sg (aF (v := I (l - (xs.length : Int))) (h4_.at 1) (sg (aC (v := I (l - (xs.length : Int))) rfl (aB (wr (aL Tryz.results102 rfl ?_)))))))))
  exact ⟨fI (by rw [oP aD]; try omega), (St.start w).bare⟩
theorem szTaskS_n (w : World) {v : Value} {xs : List Task} {fp : List Nat} (h : Sl w v xs fp) (l : Int) (hl : 0 ≤ l) (hl2 : l ≤ 1048576) :
  Calls Tryz.prog 167 #[v, I l] w fun e w' => e = .returned (I (szL l xs.length)) ∧ St w w' [] := by
 have hcap := h.len_le
 refine bR Tryz.func167 rfl Tryz.ntmps167 aX (wp_seq (aA (sg (aC (v := I 0) rfl (aB (wp_seq (aA (rn (St.start w) 5 Ag.nil.put.put.put [1] [(1, I (l - (xs.length : Int)))] [ql h, qsb l (xs.length : Int)] aE fun f4 h4_ => (aB (wp_seq (wp_seq (aA ?_))))))))))))
 refine sg (aF (v := I (l - (xs.length : Int))) (h4_.at 1) (sg (bS rfl rfl (aB (aK rfl (fun h7p => ?_) (fun h7p => ?_))))))
 ·refine wp_seq (aA (sg (aC (v := I (-1)) rfl (aB (wr (aL Tryz.results167 rfl ?_))))))
  exact ⟨fI (kK aD).symm, (St.start w).bare⟩
 ·refine wp_skip (wp_seq (aA (sg (aF (v := I (l - (xs.length : Int))) (h4_.at 1) (sg (aC (v := I (l - (xs.length : Int))) rfl (aB (wr (aL Tryz.results167 rfl ?_)))))))))
  exact ⟨fI (by rw [oP aD]; try omega), (St.start w).bare⟩
theorem szRun_n (w : World) {x : Run} {cs : List Value} {fp : List Nat} (hc : Shape.C w cs x fp) (l : Int) (hl : 0 ≤ l) (hl2 : l ≤ 1048576) :
  Calls Tryz.prog 103 #[.agg cs.toArray, I l] w fun e w' => e = .returned (I (szL l x.wt)) ∧ St w w' [] := by
 have hwt : x.wt = x.plan.wt + x.tasks.length := rfl
 refine bR Tryz.func103 rfl Tryz.ntmps103 aX (wp_seq (aA (sg (aJ (cs := cs) rfl (St.start w) ?_)))); intro b1 W2 hb3 st4
 refine sg (aC (v := I 0) rfl (aB (wp_seq (aA ?_))))
 have hk9 := hc
 obtain ⟨v9_0, v9_1, g9_0, g9_1, rfl, hok9, h9_0, h9_1, rfl⟩ := hk9
 refine rc st4 5 Ag.nil.put.put.put.put [1] [(1, I (szL l x.plan.wt))] [qb 0 rfl 1, qc Tryz.func166 rfl (fun W s b => szPlan_n W (show Shape.C _ [I x.plan.prio, I x.plan.most, I x.plan.wait, I x.plan.tasks, v9_0] x.plan _ from ⟨_, _, rfl, eS, (h9_0.below s.below), rfl⟩) l aD aD)] aE fun f10 W11 h10_ st12 hb13 => (aB (wp_seq (wp_seq (aA (sg (aF (v := I (szL l x.plan.wt)) (h10_.at 1) (sg (bS rfl rfl (aB (aK rfl (fun h16p => ?_) (fun h16p => ?_)))))))))))
 ·have h16q := lL h16p aD
  refine wp_seq (aA (sg (aC (v := I (-1)) rfl (aB (wr (aL Tryz.results103 rfl ?_))))))
  exact ⟨fI (kK aD).symm, st12.bare⟩
 ·have h16q := lM h16p aD
  refine wp_skip (wp_seq (aA (rc st12 5 h10_.put.put [1] [(1, I (szL (szL l x.plan.wt) x.tasks.length))] [qb 0 rfl 7, qc Tryz.func167 rfl (fun W s b => szTaskS_n W (h9_1.below s.below) (szL l x.plan.wt) aD aD)] aE fun f20 W21 h20_ st22 hb23 => (aB (wp_seq (wp_seq (aA (sg (aF (v := I (szL (szL l x.plan.wt) x.tasks.length)) (h20_.at 1) (sg (bS rfl rfl (aB (aK rfl (fun h26p => ?_) (fun h26p => ?_))))))))))))))
  ·have h26q := lL h26p aD
   refine wp_seq (aA (sg (aC (v := I (-1)) rfl (aB (wr (aL Tryz.results103 rfl ?_))))))
   exact ⟨fI (kK aD).symm, st22.bare⟩
  ·have h26q := lM h26p aD
   refine wp_skip (wp_seq (aA (sg (aF (v := I (szL (szL l x.plan.wt) x.tasks.length)) (h20_.at 1) (sg (aC (v := I (szL (szL l x.plan.wt) x.tasks.length)) rfl (aB (wr (aL Tryz.results103 rfl ?_)))))))))
   exact ⟨fI (by rw [oP (n := x.wt) aD]; try omega), st22.bare⟩
theorem szRunS_n (w : World) {v : Value} {xs : List Run} {fp : List Nat} (h : Sl w v xs fp) (l : Int) (hl : 0 ≤ l) (hl2 : l ≤ 1048576) :
  Calls Tryz.prog 50 #[v, I l] w fun e w' => e = .returned (I (szL l (wtL (fun y : Run => y.wt) xs))) ∧ St w w' [] := by
 have hcap := h.len_le
 have hwt : wtL (fun y : Run => y.wt) xs = xs.length + (xs.map (fun y : Run => y.wt)).sum := rfl
 refine bR Tryz.func50 rfl Tryz.ntmps50 aX (wp_seq (aA (sg (aC (v := I 0) rfl (aB (wp_seq (aA (rn (St.start w) 5 Ag.nil.put.put.put [1] [(1, I (l - (xs.length : Int)))] [ql h, qsb l (xs.length : Int)] aE fun f4 h4_ => (aB (wp_seq (wp_seq (aA ?_))))))))))))
 refine sg (aF (v := I (l - (xs.length : Int))) (h4_.at 1) (sg (bS rfl rfl (aB (aK rfl (fun h7p => ?_) (fun h7p => ?_))))))
 ·refine wp_seq (aA (sg (aC (v := I (-1)) rfl (aB (wr (aL Tryz.results50 rfl ?_))))))
  exact ⟨fI (kK aD).symm, (St.start w).bare⟩
 ·refine wp_skip (wp_seq (wp_seq (aA (sg (aC (v := I 0) rfl (aB (wp_block (aY (fun (m : Nat) (f : Nat → Value) (W : World) => ∃ (k : Nat), k ≤ xs.length ∧ 0 ≤ l - (xs.length : Int) - (((xs.take k).map (fun y : Run => y.wt)).sum : Nat) ∧ m = xs.length - k ∧ Ag [(0, v), (1, I (l - (xs.length : Int) - (((xs.take k).map (fun y : Run => y.wt)).sum : Nat))), (5, I (k : Int))] f ∧ St w W ([])) (xs.length - 0) ?_ ?_))))))))
  ·exact ⟨0, Nat.zero_le _, (by simp; omega), rfl, (Ag.cons (h4_.at 0) (Ag.cons (Eq.trans (show _ = I (l - (xs.length : Int)) from (h4_.at 1)) (show I (l - (xs.length : Int)) = I (l - (xs.length : Int) - (((xs.take 0).map (fun y : Run => y.wt)).sum : Nat)) from congrArg I (by simp))) (Ag.cons rfl Ag.nil))), (St.start w)⟩
  intro m12 f13 W14 hJ15
  obtain ⟨k, hcd17_0, hcd17_1, rfl, hA17, st16⟩ := hJ15
  refine wp_seq (wp_seq (aA (rn st16 4 hA17 [] [(15, .bool (decide ((k : Int) < (xs.length : Int))))] [ql h, .o] aE fun f19 h19_ => (aB (aK (h19_.at 15) (fun h20p => ?_) (fun h20p => ?_))))))
  ·refine wp_skip (wp_seq (wp_block (wp_seq (aA ?_))))
   have hi51fab : k < xs.length := aD
   have hq_ := idx h (i := k) hi51fab
   obtain ⟨b22, o22, cs22, f22, hp22, hr22, hc22, hm22⟩ := hq_
   refine rn st16 5 h19_ [] [(21, .agg cs22.toArray), (22, I (l - (xs.length : Int) - (((xs.take k).map (fun y : Run => y.wt)).sum : Nat)))] [qx hp22, qrw hr22 (Shape.len hc22)] aE fun f23 h23_ => ?_
   have hstep : ((xs.take (k + 1)).map (fun y : Run => y.wt)).sum = ((xs.take k).map (fun y : Run => y.wt)).sum + xs[k].wt := pN (fun y : Run => y.wt) xs k aD
   have hle := iO (fun y : Run => y.wt) xs (k + 1)
   refine rc st16 2 h23_ [1] [(1, I (szL (l - (xs.length : Int) - (((xs.take k).map (fun y : Run => y.wt)).sum : Nat)) ((xs[k]'hi51fab)).wt))] [qc (args := [.agg cs22.toArray, I (l - (xs.length : Int) - (((xs.take k).map (fun y : Run => y.wt)).sum : Nat))]) (v := I (szL (l - (xs.length : Int) - (((xs.take k).map (fun y : Run => y.wt)).sum : Nat)) ((xs[k]'hi51fab)).wt)) Tryz.func103 rfl (fun W s b => szRun_n W (bA hc22 s.below) (l - (xs.length : Int) - (((xs.take k).map (fun y : Run => y.wt)).sum : Nat)) aD aD)] aE fun f25 W26 h25_ st27 hb28 => (aB (wp_seq (aA (sg (aF (v := I (szL (l - (xs.length : Int) - (((xs.take k).map (fun y : Run => y.wt)).sum : Nat)) ((xs[k]'hi51fab)).wt)) (h25_.at 1) (sg (bS rfl rfl (aB (aK rfl (fun h31p => ?_) (fun h31p => ?_))))))))))
   ·have h31q := lL h31p aD
    refine wp_seq (aA (sg (aC (v := I (-1)) rfl (aB (wr (aL Tryz.results50 rfl ?_))))))
    exact ⟨fI (kK aD).symm, st27.bare⟩
   ·have h31q := lM h31p aD
    refine wp_skip (aA (rn st27 3 h25_.put.put [5] [(5, I ((k : Int) + 1))] [qad (k : Int) 1] aE fun f35 h35_ => (aB ?_)))
    exact ⟨_, xs.length - (k + 1), aD, rfl, k + 1, aD, aD, rfl, (Ag.cons (h35_.at 0) (Ag.cons (Eq.trans (show _ = I (szL (l - (xs.length : Int) - (((xs.take k).map (fun y : Run => y.wt)).sum : Nat)) ((xs[k]'hi51fab)).wt) from (h35_.at 1)) (show I (szL (l - (xs.length : Int) - (((xs.take k).map (fun y : Run => y.wt)).sum : Nat)) ((xs[k]'hi51fab)).wt) = I (l - (xs.length : Int) - (((xs.take (k + 1)).map (fun y : Run => y.wt)).sum : Nat)) from congrArg I aD)) (Ag.cons (h35_.at 5) Ag.nil))), st27⟩
  ·refine wp_exit (wp_seq (aA (sg (aF (v := I (l - (xs.length : Int) - (((xs.take k).map (fun y : Run => y.wt)).sum : Nat))) (h19_.at 1) (sg (aC (v := I (l - (xs.length : Int) - (((xs.take k).map (fun y : Run => y.wt)).sum : Nat))) rfl (aB (wr (aL Tryz.results50 rfl ?_)))))))))
   obtain rfl : k = xs.length := by omega
   rw [List.take_length] at *
   exact ⟨fI (by rw [oP aD]; try omega), st16.bare⟩
theorem szEntrySS_n (w : World) {v : Value} {xs : List (List Entry)} {fp : List Nat} (h : Sl w v xs fp) (l : Int) (hl : 0 ≤ l) (hl2 : l ≤ 1048576) :
  Calls Tryz.prog 49 #[v, I l] w fun e w' => e = .returned (I (szL l (wtL (fun y : List Entry => y.length) xs))) ∧ St w w' [] := by
 have hcap := h.len_le
 have hwt : wtL (fun y : List Entry => y.length) xs = xs.length + (xs.map (fun y : List Entry => y.length)).sum := rfl
 refine bR Tryz.func49 rfl Tryz.ntmps49 aX (wp_seq (aA (sg (aC (v := I 0) rfl (aB (wp_seq (aA (rn (St.start w) 5 Ag.nil.put.put.put [1] [(1, I (l - (xs.length : Int)))] [ql h, qsb l (xs.length : Int)] aE fun f4 h4_ => (aB (wp_seq (wp_seq (aA ?_))))))))))))
 refine sg (aF (v := I (l - (xs.length : Int))) (h4_.at 1) (sg (bS rfl rfl (aB (aK rfl (fun h7p => ?_) (fun h7p => ?_))))))
 ·refine wp_seq (aA (sg (aC (v := I (-1)) rfl (aB (wr (aL Tryz.results49 rfl ?_))))))
  exact ⟨fI (kK aD).symm, (St.start w).bare⟩
 ·refine wp_skip (wp_seq (wp_seq (aA (sg (aC (v := I 0) rfl (aB (wp_block (aY (fun (m : Nat) (f : Nat → Value) (W : World) => ∃ (k : Nat), k ≤ xs.length ∧ 0 ≤ l - (xs.length : Int) - (((xs.take k).map (fun y : List Entry => y.length)).sum : Nat) ∧ m = xs.length - k ∧ Ag [(0, v), (1, I (l - (xs.length : Int) - (((xs.take k).map (fun y : List Entry => y.length)).sum : Nat))), (5, I (k : Int))] f ∧ St w W ([])) (xs.length - 0) ?_ ?_))))))))
  ·exact ⟨0, Nat.zero_le _, (by simp; omega), rfl, (Ag.cons (h4_.at 0) (Ag.cons (Eq.trans (show _ = I (l - (xs.length : Int)) from (h4_.at 1)) (show I (l - (xs.length : Int)) = I (l - (xs.length : Int) - (((xs.take 0).map (fun y : List Entry => y.length)).sum : Nat)) from congrArg I (by simp))) (Ag.cons rfl Ag.nil))), (St.start w)⟩
  intro m12 f13 W14 hJ15
  obtain ⟨k, hcd17_0, hcd17_1, rfl, hA17, st16⟩ := hJ15
  refine wp_seq (wp_seq (aA (rn st16 4 hA17 [] [(15, .bool (decide ((k : Int) < (xs.length : Int))))] [ql h, .o] aE fun f19 h19_ => (aB (aK (h19_.at 15) (fun h20p => ?_) (fun h20p => ?_))))))
  ·refine wp_skip (wp_seq (wp_block (wp_seq (aA ?_))))
   have hi51fab : k < xs.length := aD
   have hq_ := idx h (i := k) hi51fab
   obtain ⟨b22, o22, cs22, f22, hp22, hr22, hc22, hm22⟩ := hq_
   have hk22 := hc22
   obtain ⟨v23, rfl, h24⟩ := hk22
   refine rn st16 5 h19_ [] [(21, v23), (22, I (l - (xs.length : Int) - (((xs.take k).map (fun y : List Entry => y.length)).sum : Nat)))] [qx hp22, qr hr22 0] aE fun f25 h25_ => ?_
   have hstep : ((xs.take (k + 1)).map (fun y : List Entry => y.length)).sum = ((xs.take k).map (fun y : List Entry => y.length)).sum + xs[k].length := pN (fun y : List Entry => y.length) xs k aD
   have hle := iO (fun y : List Entry => y.length) xs (k + 1)
   refine rc st16 2 h25_ [1] [(1, I (szL (l - (xs.length : Int) - (((xs.take k).map (fun y : List Entry => y.length)).sum : Nat)) ((xs[k]'hi51fab)).length))] [qc (args := [v23, I (l - (xs.length : Int) - (((xs.take k).map (fun y : List Entry => y.length)).sum : Nat))]) (v := I (szL (l - (xs.length : Int) - (((xs.take k).map (fun y : List Entry => y.length)).sum : Nat)) ((xs[k]'hi51fab)).length)) Tryz.func102 rfl (fun W s b => szEntryS_n W (h24.below s.below) (l - (xs.length : Int) - (((xs.take k).map (fun y : List Entry => y.length)).sum : Nat)) aD aD)] aE fun f27 W28 h27_ st29 hb30 => (aB (wp_seq (aA (sg (aF (v := I (szL (l - (xs.length : Int) - (((xs.take k).map (fun y : List Entry => y.length)).sum : Nat)) ((xs[k]'hi51fab)).length)) (h27_.at 1) (sg (bS rfl rfl (aB (aK rfl (fun h33p => ?_) (fun h33p => ?_))))))))))
   ·have h33q := lL h33p aD
    refine wp_seq (aA (sg (aC (v := I (-1)) rfl (aB (wr (aL Tryz.results49 rfl ?_))))))
    exact ⟨fI (kK aD).symm, st29.bare⟩
   ·have h33q := lM h33p aD
    refine wp_skip (aA (rn st29 3 h27_.put.put [5] [(5, I ((k : Int) + 1))] [qad (k : Int) 1] aE fun f37 h37_ => (aB ?_)))
    exact ⟨_, xs.length - (k + 1), aD, rfl, k + 1, aD, aD, rfl, (Ag.cons (h37_.at 0) (Ag.cons (Eq.trans (show _ = I (szL (l - (xs.length : Int) - (((xs.take k).map (fun y : List Entry => y.length)).sum : Nat)) ((xs[k]'hi51fab)).length) from (h37_.at 1)) (show I (szL (l - (xs.length : Int) - (((xs.take k).map (fun y : List Entry => y.length)).sum : Nat)) ((xs[k]'hi51fab)).length) = I (l - (xs.length : Int) - (((xs.take (k + 1)).map (fun y : List Entry => y.length)).sum : Nat)) from congrArg I aD)) (Ag.cons (h37_.at 5) Ag.nil))), st29⟩
  ·refine wp_exit (wp_seq (aA (sg (aF (v := I (l - (xs.length : Int) - (((xs.take k).map (fun y : List Entry => y.length)).sum : Nat))) (h19_.at 1) (sg (aC (v := I (l - (xs.length : Int) - (((xs.take k).map (fun y : List Entry => y.length)).sum : Nat))) rfl (aB (wr (aL Tryz.results49 rfl ?_)))))))))
   obtain rfl : k = xs.length := by omega
   rw [List.take_length] at *
   exact ⟨fI (by rw [oP aD]; try omega), st16.bare⟩
theorem szYard_n (w : World) {x : Yard} {cs : List Value} {fp : List Nat} (hc : Shape.C w cs x fp) (l : Int) (hl : 0 ≤ l) (hl2 : l ≤ 1048576) :
  Calls Tryz.prog 15 #[.agg cs.toArray, I l] w fun e w' => e = .returned (I (szL l x.wt)) ∧ St w w' [] := by
 have hwt : x.wt = (wtL (fun y : List Entry => y.length) x.shelf) + (wtL (fun y : Run => y.wt) x.runs) := rfl
 refine bR Tryz.func15 rfl Tryz.ntmps15 aX (wp_seq (aA (sg (aJ (cs := cs) rfl (St.start w) ?_)))); intro b1 W2 hb3 st4
 refine sg (aC (v := I 0) rfl (aB (wp_seq (aA ?_))))
 have hk9 := hc
 obtain ⟨v9_0, v9_1, g9_0, g9_1, rfl, hok9, h9_0, h9_1, rfl⟩ := hk9
 refine rc st4 5 Ag.nil.put.put.put.put [1] [(1, I (szL l (wtL (fun y : List Entry => y.length) x.shelf)))] [qb 0 rfl 2, qc Tryz.func49 rfl (fun W s b => szEntrySS_n W (h9_0.below s.below) l aD aD)] aE fun f10 W11 h10_ st12 hb13 => (aB (wp_seq (wp_seq (aA (sg (aF (v := I (szL l (wtL (fun y : List Entry => y.length) x.shelf))) (h10_.at 1) (sg (bS rfl rfl (aB (aK rfl (fun h16p => ?_) (fun h16p => ?_)))))))))))
 ·have h16q := lL h16p aD
  refine wp_seq (aA (sg (aC (v := I (-1)) rfl (aB (wr (aL Tryz.results15 rfl ?_))))))
  exact ⟨fI (kK aD).symm, st12.bare⟩
 ·have h16q := lM h16p aD
  refine wp_skip (wp_seq (aA (rc st12 5 h10_.put.put [1] [(1, I (szL (szL l (wtL (fun y : List Entry => y.length) x.shelf)) (wtL (fun y : Run => y.wt) x.runs)))] [qb 0 rfl 3, qc Tryz.func50 rfl (fun W s b => szRunS_n W (h9_1.below s.below) (szL l (wtL (fun y : List Entry => y.length) x.shelf)) aD aD)] aE fun f20 W21 h20_ st22 hb23 => (aB (wp_seq (wp_seq (aA (sg (aF (v := I (szL (szL l (wtL (fun y : List Entry => y.length) x.shelf)) (wtL (fun y : Run => y.wt) x.runs))) (h20_.at 1) (sg (bS rfl rfl (aB (aK rfl (fun h26p => ?_) (fun h26p => ?_))))))))))))))
  ·have h26q := lL h26p aD
   refine wp_seq (aA (sg (aC (v := I (-1)) rfl (aB (wr (aL Tryz.results15 rfl ?_))))))
   exact ⟨fI (kK aD).symm, st22.bare⟩
  ·have h26q := lM h26p aD
   refine wp_skip (wp_seq (aA (sg (aF (v := I (szL (szL l (wtL (fun y : List Entry => y.length) x.shelf)) (wtL (fun y : Run => y.wt) x.runs))) (h20_.at 1) (sg (aC (v := I (szL (szL l (wtL (fun y : List Entry => y.length) x.shelf)) (wtL (fun y : Run => y.wt) x.runs))) rfl (aB (wr (aL Tryz.results15 rfl ?_)))))))))
   exact ⟨fI (by rw [oP (n := x.wt) aD]; try omega), st22.bare⟩
theorem szReplyS_n (w : World) {v : Value} {xs : List Reply} {fp : List Nat} (h : Sl w v xs fp) (l : Int) (hl : 0 ≤ l) (hl2 : l ≤ 1048576) :
  Calls Tryz.prog 41 #[v, I l] w fun e w' => e = .returned (I (szL l xs.length)) ∧ St w w' [] := by
 have hcap := h.len_le
 refine bR Tryz.func41 rfl Tryz.ntmps41 aX (wp_seq (aA (sg (aC (v := I 0) rfl (aB (wp_seq (aA (rn (St.start w) 5 Ag.nil.put.put.put [1] [(1, I (l - (xs.length : Int)))] [ql h, qsb l (xs.length : Int)] aE fun f4 h4_ => (aB (wp_seq (wp_seq (aA ?_))))))))))))
 refine sg (aF (v := I (l - (xs.length : Int))) (h4_.at 1) (sg (bS rfl rfl (aB (aK rfl (fun h7p => ?_) (fun h7p => ?_))))))
 ·refine wp_seq (aA (sg (aC (v := I (-1)) rfl (aB (wr (aL Tryz.results41 rfl ?_))))))
  exact ⟨fI (kK aD).symm, (St.start w).bare⟩
 ·refine wp_skip (wp_seq (aA (sg (aF (v := I (l - (xs.length : Int))) (h4_.at 1) (sg (aC (v := I (l - (xs.length : Int))) rfl (aB (wr (aL Tryz.results41 rfl ?_)))))))))
  exact ⟨fI (by rw [oP aD]; try omega), (St.start w).bare⟩
theorem szCrew_n (w : World) {x : Crew} {cs : List Value} {fp : List Nat} (hc : Shape.C w cs x fp) (l : Int) (hl : 0 ≤ l) (hl2 : l ≤ 1048576) :
  Calls Tryz.prog 10 #[.agg cs.toArray, I l] w fun e w' => e = .returned (I (szL l x.wt)) ∧ St w w' [] := by
 have hwt : x.wt = x.yard.wt + x.holds.length := rfl
 refine bR Tryz.func10 rfl Tryz.ntmps10 aX (wp_seq (aA (sg (aJ (cs := cs) rfl (St.start w) ?_)))); intro b1 W2 hb3 st4
 refine sg (aC (v := I 0) rfl (aB (wp_seq (aA ?_))))
 have hk9 := hc
 obtain ⟨v9_0, v9_1, v9_2, g9_0, g9_1, g9_2, rfl, hok9, h9_0, h9_1, h9_2, rfl⟩ := hk9
 refine rc st4 5 Ag.nil.put.put.put.put [1] [(1, I (szL l x.yard.wt))] [qb 0 rfl 0, qc Tryz.func15 rfl (fun W s b => szYard_n W (show Shape.C _ [I x.yard.now, I x.yard.seq, v9_0, v9_1] x.yard _ from ⟨_, _, _, _, rfl, eS, (h9_0.below s.below), (h9_1.below s.below), rfl⟩) l aD aD)] aE fun f10 W11 h10_ st12 hb13 => (aB (wp_seq (wp_seq (aA (sg (aF (v := I (szL l x.yard.wt)) (h10_.at 1) (sg (bS rfl rfl (aB (aK rfl (fun h16p => ?_) (fun h16p => ?_)))))))))))
 ·have h16q := lL h16p aD
  refine wp_seq (aA (sg (aC (v := I (-1)) rfl (aB (wr (aL Tryz.results10 rfl ?_))))))
  exact ⟨fI (kK aD).symm, st12.bare⟩
 ·have h16q := lM h16p aD
  refine wp_skip (wp_seq (aA (rc st12 5 h10_.put.put [1] [(1, I (szL (szL l x.yard.wt) x.holds.length))] [qb 0 rfl 4, qc Tryz.func41 rfl (fun W s b => szReplyS_n W (h9_2.below s.below) (szL l x.yard.wt) aD aD)] aE fun f20 W21 h20_ st22 hb23 => (aB (wp_seq (wp_seq (aA (sg (aF (v := I (szL (szL l x.yard.wt) x.holds.length)) (h20_.at 1) (sg (bS rfl rfl (aB (aK rfl (fun h26p => ?_) (fun h26p => ?_))))))))))))))
  ·have h26q := lL h26p aD
   refine wp_seq (aA (sg (aC (v := I (-1)) rfl (aB (wr (aL Tryz.results10 rfl ?_))))))
   exact ⟨fI (kK aD).symm, st22.bare⟩
  ·have h26q := lM h26p aD
   refine wp_skip (wp_seq (aA (sg (aF (v := I (szL (szL l x.yard.wt) x.holds.length)) (h20_.at 1) (sg (aC (v := I (szL (szL l x.yard.wt) x.holds.length)) rfl (aB (wr (aL Tryz.results10 rfl ?_)))))))))
   exact ⟨fI (by rw [oP (n := x.wt) aD]; try omega), st22.bare⟩
theorem Edge_ext {x y : Edge} (h0 : x.from_ = y.from_) (h1 : x.to_ = y.to_) : x = y := by
 cases x; cases y; simp only at *; subst_vars; rfl
theorem eqEdge_n (w : World) {x y : Edge} {cs ds : List Value} {fp gp : List Nat} (hc : Shape.C w cs x fp) (hd : Shape.C w ds y gp) :
  Calls Tryz.prog 238 #[.agg cs.toArray, .agg ds.toArray] w fun e w' => e = .returned (.bool (eqB x y)) ∧ St w w' [] := by
 refine bR Tryz.func238 rfl Tryz.ntmps238 aX (wp_seq (aA (sg (aJ (cs := cs) rfl (St.start w) ?_)))); intro b1 W2 hb3 st4
 refine sg (aJ (cs := ds) rfl st4 ?_); intro b6 W7 hb8 st9
 refine sg (aC (v := .bool false) rfl (aB (wp_seq (wp_seq (aA ?_)))))
 have hk14 := hc
 obtain ⟨he14, rfl, hok14⟩ := hk14
 have he14 : _ = [I x.from_, I x.to_] := he14
 subst he14
 have hk15 := hd
 obtain ⟨he15, rfl, hok15⟩ := hk15
 have he15 : _ = [I y.from_, I y.to_] := he15
 subst he15
 refine rn st9 5 Ag.nil.put.put.put.put.put [] [(9, .bool (!decide (x.from_ = y.from_)))] [qb 1 rfl 0, qb 0 rfl 0, .o] aE fun f16 h16_ => (aB (cB (h16_.at 9) (fun h17p => ?_) (fun h17p => ?_)))
 ·have h17 := gR h17p
  refine wp_seq (aA (sg (aC (v := .bool false) rfl (aB (wr (aL Tryz.results238 rfl ?_))))))
  exact ⟨fB (dZ (fun e => by subst e; first | exact h17p rfl | exact absurd (aW h17) (by rw [dB rfl]; decide) | exact absurd (aW h17) (by simp))).symm, st9.bare⟩
 ·have h17 := gS h17p
  refine wp_skip (wp_seq (wp_seq (aA (rn st9 5 h16_ [] [(14, .bool (!decide (x.to_ = y.to_)))] [qb 1 rfl 1, qb 0 rfl 1, .o] aE fun f21 h21_ => (aB (cB (h21_.at 14) (fun h22p => ?_) (fun h22p => ?_)))))))
  ·have h22 := gR h22p
   refine wp_seq (aA (sg (aC (v := .bool false) rfl (aB (wr (aL Tryz.results238 rfl ?_))))))
   exact ⟨fB (dZ (fun e => by subst e; first | exact h22p rfl | exact absurd (aW h22) (by rw [dB rfl]; decide) | exact absurd (aW h22) (by simp))).symm, st9.bare⟩
  ·have h22 := gS h22p
   refine wp_skip (wp_seq (aA (sg (aC (v := .bool true) rfl (aB (wr (aL Tryz.results238 rfl ?_)))))))
   exact ⟨fB (dB (Edge_ext h17p h22p)).symm, st9.bare⟩
theorem eqEdgeS_n (w : World) {v u : Value} {xs ys : List Edge} {fp gp : List Nat} (h : Sl w v xs fp) (g : Sl w u ys gp) :
  Calls Tryz.prog 224 #[v, u] w fun e w' => e = .returned (.bool (eqB xs ys)) ∧ St w w' [] := by
 have hcap := h.len_le
 have hcap2 := g.len_le
 refine bR Tryz.func224 rfl Tryz.ntmps224 aX (wp_seq (aA (sg (aC (v := .bool false) rfl (aB (wp_seq (wp_seq (aA (rn (St.start w) 5 Ag.nil.put.put.put [] [(10, .bool (!decide ((xs.length : Int) = (ys.length : Int))))] [ql h, ql g, .o] aE fun f4 h4_ => (aB (cB (h4_.at 10) (fun h5p => ?_) (fun h5p => ?_))))))))))))
 ·refine wp_seq (aA (sg (aC (v := .bool false) rfl (aB (wr (aL Tryz.results224 rfl ?_))))))
  exact ⟨fB (dZ (fun e => h5p (by rw [e]))).symm, (St.start w).bare⟩
 ·refine wp_skip (wp_seq (wp_seq (aA (sg (aC (v := I 0) rfl (aB (wp_block (aY (fun (m : Nat) (f : Nat → Value) (W : World) => ∃ (k : Nat), k ≤ xs.length ∧ xs.take k = ys.take k ∧ m = xs.length - k ∧ Ag [(0, v), (1, u), (5, I (k : Int))] f ∧ St w W ([])) (xs.length - 0) ?_ ?_))))))))
  ·exact ⟨0, Nat.zero_le _, rfl, rfl, (h4_.put.to aE), (St.start w)⟩
  intro m10 f11 W12 hJ13
  obtain ⟨k, hk, htk, rfl, hA15, st14⟩ := hJ13
  refine wp_seq (wp_seq (aA (rn st14 4 hA15 [] [(14, .bool (decide ((k : Int) < (xs.length : Int))))] [ql h, .o] aE fun f17 h17_ => (aB (aK (h17_.at 14) (fun h18p => ?_) (fun h18p => ?_))))))
  ·refine wp_skip (wp_seq (wp_block (wp_seq ?_)))
   have hi51fab : k < xs.length := aD
   have hq_ := idx h (i := k) hi51fab
   obtain ⟨b20, o20, cs20, f20, hp20, hr20, hc20, hm20⟩ := hq_
   have hk21 := hc20
   obtain ⟨he21, rfl, hok21⟩ := hk21
   have he21 : _ = [I (xs[k]'hi51fab).from_, I (xs[k]'hi51fab).to_] := he21
   subst he21
   have hi28e79 : k < ys.length := aD
   have hq_ := idx g (i := k) hi28e79
   obtain ⟨b22, o22, cs22, f22, hp22, hr22, hc22, hm22⟩ := hq_
   have hk23 := hc22
   obtain ⟨he23, rfl, hok23⟩ := hk23
   have he23 : _ = [I (ys[k]'hi28e79).from_, I (ys[k]'hi28e79).to_] := he23
   subst he23
   refine rd st14 h17_ [] [(26, .bool (!(eqB (xs[k]'hi51fab) (ys[k]'hi28e79))))] [qx hp20, qr hr20 0, qx hp22, qr hr22 0, qc (args := [.agg #[I (xs[k]'hi51fab).from_, I (xs[k]'hi51fab).to_], .agg #[I (ys[k]'hi28e79).from_, I (ys[k]'hi28e79).to_]]) (v := .bool (eqB (xs[k]'hi51fab) (ys[k]'hi28e79))) Tryz.func238 rfl (fun W s b => eqEdge_n W hc20 hc22), .o] aE aE fun f24 W25 h24_ st26 hb27 => (cT (h24_.at 26) (fun h28 => ?_) (fun h28 => ?_))
   ·refine wp_seq (aA (sg (aC (v := .bool false) rfl (aB (wr (aL Tryz.results224 rfl ?_))))))
    have hne : ¬ xs[k] = ys[k]'(by omega) := fun e => absurd (aW h28) (by rw [dB e]; decide)
    exact ⟨fB (dZ (fun e => hne (by subst e; rfl))).symm, st26.bare⟩
   ·refine wp_skip (aA (rn st26 3 h24_ [5] [(5, I ((k : Int) + 1))] [qad (k : Int) 1] aE fun f32 h32_ => (aB ?_)))
    exact ⟨_, xs.length - (k + 1), aD, rfl, k + 1, aD, (gO aD aD htk (eqB_iff.1 (bG h28))), rfl, (h32_.to aE), st26⟩
  ·refine wp_exit (wp_seq (aA (sg (aC (v := .bool true) rfl (aB (wr (aL Tryz.results224 rfl ?_)))))))
   obtain rfl : k = xs.length := by omega
   rw [List.take_length, List.take_of_length_le aD] at htk
   exact ⟨fB (dB htk).symm, st14.bare⟩
theorem Plan_ext {x y : Plan} (h0 : x.prio = y.prio) (h1 : x.most = y.most) (h2 : x.wait = y.wait) (h3 : x.tasks = y.tasks) (h4 : x.edges = y.edges) : x = y := by
 cases x; cases y; simp only at *; subst_vars; rfl
theorem eqPlan_n (w : World) {x y : Plan} {cs ds : List Value} {fp gp : List Nat} (hc : Shape.C w cs x fp) (hd : Shape.C w ds y gp) :
  Calls Tryz.prog 179 #[.agg cs.toArray, .agg ds.toArray] w fun e w' => e = .returned (.bool (eqB x y)) ∧ St w w' [] := by
 refine bR Tryz.func179 rfl Tryz.ntmps179 aX (wp_seq (aA (sg (aJ (cs := cs) rfl (St.start w) ?_)))); intro b1 W2 hb3 st4
 refine sg (aJ (cs := ds) rfl st4 ?_); intro b6 W7 hb8 st9
 refine sg (aC (v := .bool false) rfl (aB (wp_seq (wp_seq (aA ?_)))))
 have hk14 := hc
 obtain ⟨v14_0, g14_0, rfl, hok14, h14_0, rfl⟩ := hk14
 have hk15 := hd
 obtain ⟨v15_0, g15_0, rfl, hok15, h15_0, rfl⟩ := hk15
 refine rn st9 5 Ag.nil.put.put.put.put.put [] [(9, .bool (!decide (x.prio = y.prio)))] [qb 1 rfl 0, qb 0 rfl 0, .o] aE fun f16 h16_ => (aB (cB (h16_.at 9) (fun h17p => ?_) (fun h17p => ?_)))
 ·have h17 := gR h17p
  refine wp_seq (aA (sg (aC (v := .bool false) rfl (aB (wr (aL Tryz.results179 rfl ?_))))))
  exact ⟨fB (dZ (fun e => by subst e; first | exact h17p rfl | exact absurd (aW h17) (by rw [dB rfl]; decide) | exact absurd (aW h17) (by simp))).symm, st9.bare⟩
 ·have h17 := gS h17p
  refine wp_skip (wp_seq (wp_seq (aA (rn st9 5 h16_ [] [(14, .bool (!decide (x.most = y.most)))] [qb 1 rfl 1, qb 0 rfl 1, .o] aE fun f21 h21_ => (aB (cB (h21_.at 14) (fun h22p => ?_) (fun h22p => ?_)))))))
  ·have h22 := gR h22p
   refine wp_seq (aA (sg (aC (v := .bool false) rfl (aB (wr (aL Tryz.results179 rfl ?_))))))
   exact ⟨fB (dZ (fun e => by subst e; first | exact h22p rfl | exact absurd (aW h22) (by rw [dB rfl]; decide) | exact absurd (aW h22) (by simp))).symm, st9.bare⟩
  ·have h22 := gS h22p
   refine wp_skip (wp_seq (wp_seq (aA (rn st9 5 h21_ [] [(19, .bool (!decide (x.wait = y.wait)))] [qb 1 rfl 2, qb 0 rfl 2, .o] aE fun f26 h26_ => (aB (cB (h26_.at 19) (fun h27p => ?_) (fun h27p => ?_)))))))
   ·have h27 := gR h27p
    refine wp_seq (aA (sg (aC (v := .bool false) rfl (aB (wr (aL Tryz.results179 rfl ?_))))))
    exact ⟨fB (dZ (fun e => by subst e; first | exact h27p rfl | exact absurd (aW h27) (by rw [dB rfl]; decide) | exact absurd (aW h27) (by simp))).symm, st9.bare⟩
   ·have h27 := gS h27p
    refine wp_skip (wp_seq (wp_seq (aA (rn st9 5 h26_ [] [(24, .bool (!decide (x.tasks = y.tasks)))] [qb 1 rfl 3, qb 0 rfl 3, .o] aE fun f31 h31_ => (aB (cB (h31_.at 24) (fun h32p => ?_) (fun h32p => ?_)))))))
    ·have h32 := gR h32p
     refine wp_seq (aA (sg (aC (v := .bool false) rfl (aB (wr (aL Tryz.results179 rfl ?_))))))
     exact ⟨fB (dZ (fun e => by subst e; first | exact h32p rfl | exact absurd (aW h32) (by rw [dB rfl]; decide) | exact absurd (aW h32) (by simp))).symm, st9.bare⟩
    ·have h32 := gS h32p
     refine wp_skip (wp_seq (wp_seq (aA (rc st9 6 h31_ [] [(30, .bool (!(eqB x.edges y.edges)))] [qb 1 rfl 4, qb 0 rfl 4, qc Tryz.func224 rfl (fun W s b => eqEdgeS_n W (h14_0.below s.below) (h15_0.below s.below)), .o] aE fun f36 W37 h36_ st38 hb39 => (aB (cT (h36_.at 30) (fun h40 => ?_) (fun h40 => ?_)))))))
     ·refine wp_seq (aA (sg (aC (v := .bool false) rfl (aB (wr (aL Tryz.results179 rfl ?_))))))
      exact ⟨fB (dZ (fun e => by subst e; first | exact absurd (aW h40) (by rw [dB rfl]; decide) | exact absurd (aW h40) (by simp))).symm, st38.bare⟩
     ·refine wp_skip (wp_seq (aA (sg (aC (v := .bool true) rfl (aB (wr (aL Tryz.results179 rfl ?_)))))))
      exact ⟨fB (dB (Plan_ext h17p h22p h27p h32p (eqB_iff.1 (bG h40)))).symm, st38.bare⟩
theorem Entry_ext {x y : Entry} (h0 : x.prio = y.prio) (h1 : x.seq = y.seq) (h2 : x.run = y.run) (h3 : x.task = y.task) : x = y := by
 cases x; cases y; simp only at *; subst_vars; rfl
theorem eqEntry_n (w : World) {x y : Entry} {cs ds : List Value} {fp gp : List Nat} (hc : Shape.C w cs x fp) (hd : Shape.C w ds y gp) :
  Calls Tryz.prog 178 #[.agg cs.toArray, .agg ds.toArray] w fun e w' => e = .returned (.bool (eqB x y)) ∧ St w w' [] := by
 refine bR Tryz.func178 rfl Tryz.ntmps178 aX (wp_seq (aA (sg (aJ (cs := cs) rfl (St.start w) ?_)))); intro b1 W2 hb3 st4
 refine sg (aJ (cs := ds) rfl st4 ?_); intro b6 W7 hb8 st9
 refine sg (aC (v := .bool false) rfl (aB (wp_seq (wp_seq (aA ?_)))))
 have hk14 := hc
 obtain ⟨he14, rfl, hok14⟩ := hk14
 have he14 : _ = [I x.prio, I x.seq, I x.run, I x.task] := he14
 subst he14
 have hk15 := hd
 obtain ⟨he15, rfl, hok15⟩ := hk15
 have he15 : _ = [I y.prio, I y.seq, I y.run, I y.task] := he15
 subst he15
 refine rn st9 5 Ag.nil.put.put.put.put.put [] [(9, .bool (!decide (x.prio = y.prio)))] [qb 1 rfl 0, qb 0 rfl 0, .o] aE fun f16 h16_ => (aB (cB (h16_.at 9) (fun h17p => ?_) (fun h17p => ?_)))
 ·have h17 := gR h17p
  refine wp_seq (aA (sg (aC (v := .bool false) rfl (aB (wr (aL Tryz.results178 rfl ?_))))))
  exact ⟨fB (dZ (fun e => by subst e; first | exact h17p rfl | exact absurd (aW h17) (by rw [dB rfl]; decide) | exact absurd (aW h17) (by simp))).symm, st9.bare⟩
 ·have h17 := gS h17p
  refine wp_skip (wp_seq (wp_seq (aA (rn st9 5 h16_ [] [(14, .bool (!decide (x.seq = y.seq)))] [qb 1 rfl 1, qb 0 rfl 1, .o] aE fun f21 h21_ => (aB (cB (h21_.at 14) (fun h22p => ?_) (fun h22p => ?_)))))))
  ·have h22 := gR h22p
   refine wp_seq (aA (sg (aC (v := .bool false) rfl (aB (wr (aL Tryz.results178 rfl ?_))))))
   exact ⟨fB (dZ (fun e => by subst e; first | exact h22p rfl | exact absurd (aW h22) (by rw [dB rfl]; decide) | exact absurd (aW h22) (by simp))).symm, st9.bare⟩
  ·have h22 := gS h22p
   refine wp_skip (wp_seq (wp_seq (aA (rn st9 5 h21_ [] [(19, .bool (!decide (x.run = y.run)))] [qb 1 rfl 2, qb 0 rfl 2, .o] aE fun f26 h26_ => (aB (cB (h26_.at 19) (fun h27p => ?_) (fun h27p => ?_)))))))
   ·have h27 := gR h27p
    refine wp_seq (aA (sg (aC (v := .bool false) rfl (aB (wr (aL Tryz.results178 rfl ?_))))))
    exact ⟨fB (dZ (fun e => by subst e; first | exact h27p rfl | exact absurd (aW h27) (by rw [dB rfl]; decide) | exact absurd (aW h27) (by simp))).symm, st9.bare⟩
   ·have h27 := gS h27p
    refine wp_skip (wp_seq (wp_seq (aA (rn st9 5 h26_ [] [(24, .bool (!decide (x.task = y.task)))] [qb 1 rfl 3, qb 0 rfl 3, .o] aE fun f31 h31_ => (aB (cB (h31_.at 24) (fun h32p => ?_) (fun h32p => ?_)))))))
    ·have h32 := gR h32p
     refine wp_seq (aA (sg (aC (v := .bool false) rfl (aB (wr (aL Tryz.results178 rfl ?_))))))
     exact ⟨fB (dZ (fun e => by subst e; first | exact h32p rfl | exact absurd (aW h32) (by rw [dB rfl]; decide) | exact absurd (aW h32) (by simp))).symm, st9.bare⟩
    ·have h32 := gS h32p
     refine wp_skip (wp_seq (aA (sg (aC (v := .bool true) rfl (aB (wr (aL Tryz.results178 rfl ?_)))))))
     exact ⟨fB (dB (Entry_ext h17p h22p h27p h32p)).symm, st9.bare⟩
theorem eqEntryS_n (w : World) {v u : Value} {xs ys : List Entry} {fp gp : List Nat} (h : Sl w v xs fp) (g : Sl w u ys gp) :
  Calls Tryz.prog 113 #[v, u] w fun e w' => e = .returned (.bool (eqB xs ys)) ∧ St w w' [] := by
 have hcap := h.len_le
 have hcap2 := g.len_le
 refine bR Tryz.func113 rfl Tryz.ntmps113 aX (wp_seq (aA (sg (aC (v := .bool false) rfl (aB (wp_seq (wp_seq (aA (rn (St.start w) 5 Ag.nil.put.put.put [] [(10, .bool (!decide ((xs.length : Int) = (ys.length : Int))))] [ql h, ql g, .o] aE fun f4 h4_ => (aB (cB (h4_.at 10) (fun h5p => ?_) (fun h5p => ?_))))))))))))
 ·refine wp_seq (aA (sg (aC (v := .bool false) rfl (aB (wr (aL Tryz.results113 rfl ?_))))))
  exact ⟨fB (dZ (fun e => h5p (by rw [e]))).symm, (St.start w).bare⟩
 ·refine wp_skip (wp_seq (wp_seq (aA (sg (aC (v := I 0) rfl (aB (wp_block (aY (fun (m : Nat) (f : Nat → Value) (W : World) => ∃ (k : Nat), k ≤ xs.length ∧ xs.take k = ys.take k ∧ m = xs.length - k ∧ Ag [(0, v), (1, u), (5, I (k : Int))] f ∧ St w W ([])) (xs.length - 0) ?_ ?_))))))))
  ·exact ⟨0, Nat.zero_le _, rfl, rfl, (h4_.put.to aE), (St.start w)⟩
  intro m10 f11 W12 hJ13
  obtain ⟨k, hk, htk, rfl, hA15, st14⟩ := hJ13
  refine wp_seq (wp_seq (aA (rn st14 4 hA15 [] [(14, .bool (decide ((k : Int) < (xs.length : Int))))] [ql h, .o] aE fun f17 h17_ => (aB (aK (h17_.at 14) (fun h18p => ?_) (fun h18p => ?_))))))
  ·refine wp_skip (wp_seq (wp_block (wp_seq ?_)))
   have hi51fab : k < xs.length := aD
   have hq_ := idx h (i := k) hi51fab
   obtain ⟨b20, o20, cs20, f20, hp20, hr20, hc20, hm20⟩ := hq_
   have hk21 := hc20
   obtain ⟨he21, rfl, hok21⟩ := hk21
   have he21 : _ = [I (xs[k]'hi51fab).prio, I (xs[k]'hi51fab).seq, I (xs[k]'hi51fab).run, I (xs[k]'hi51fab).task] := he21
   subst he21
   have hi28e79 : k < ys.length := aD
   have hq_ := idx g (i := k) hi28e79
   obtain ⟨b22, o22, cs22, f22, hp22, hr22, hc22, hm22⟩ := hq_
   have hk23 := hc22
   obtain ⟨he23, rfl, hok23⟩ := hk23
   have he23 : _ = [I (ys[k]'hi28e79).prio, I (ys[k]'hi28e79).seq, I (ys[k]'hi28e79).run, I (ys[k]'hi28e79).task] := he23
   subst he23
   refine rd st14 h17_ [] [(26, .bool (!(eqB (xs[k]'hi51fab) (ys[k]'hi28e79))))] [qx hp20, qr hr20 0, qx hp22, qr hr22 0, qc (args := [.agg #[I (xs[k]'hi51fab).prio, I (xs[k]'hi51fab).seq, I (xs[k]'hi51fab).run, I (xs[k]'hi51fab).task], .agg #[I (ys[k]'hi28e79).prio, I (ys[k]'hi28e79).seq, I (ys[k]'hi28e79).run, I (ys[k]'hi28e79).task]]) (v := .bool (eqB (xs[k]'hi51fab) (ys[k]'hi28e79))) Tryz.func178 rfl (fun W s b => eqEntry_n W hc20 hc22), .o] aE aE fun f24 W25 h24_ st26 hb27 => (cT (h24_.at 26) (fun h28 => ?_) (fun h28 => ?_))
   ·refine wp_seq (aA (sg (aC (v := .bool false) rfl (aB (wr (aL Tryz.results113 rfl ?_))))))
    have hne : ¬ xs[k] = ys[k]'(by omega) := fun e => absurd (aW h28) (by rw [dB e]; decide)
    exact ⟨fB (dZ (fun e => hne (by subst e; rfl))).symm, st26.bare⟩
   ·refine wp_skip (aA (rn st26 3 h24_ [5] [(5, I ((k : Int) + 1))] [qad (k : Int) 1] aE fun f32 h32_ => (aB ?_)))
    exact ⟨_, xs.length - (k + 1), aD, rfl, k + 1, aD, (gO aD aD htk (eqB_iff.1 (bG h28))), rfl, (h32_.to aE), st26⟩
  ·refine wp_exit (wp_seq (aA (sg (aC (v := .bool true) rfl (aB (wr (aL Tryz.results113 rfl ?_)))))))
   obtain rfl : k = xs.length := by omega
   rw [List.take_length, List.take_of_length_le aD] at htk
   exact ⟨fB (dB htk).symm, st14.bare⟩
theorem Task_ext {x y : Task} (h0 : x.state = y.state) (h1 : x.need = y.need) (h2 : x.try_ = y.try_) (h3 : x.until_ = y.until_) : x = y := by
 cases x; cases y; simp only at *; subst_vars; rfl
theorem eqTask_n (w : World) {x y : Task} {cs ds : List Value} {fp gp : List Nat} (hc : Shape.C w cs x fp) (hd : Shape.C w ds y gp) :
  Calls Tryz.prog 225 #[.agg cs.toArray, .agg ds.toArray] w fun e w' => e = .returned (.bool (eqB x y)) ∧ St w w' [] := by
 refine bR Tryz.func225 rfl Tryz.ntmps225 aX (wp_seq (aA (sg (aJ (cs := cs) rfl (St.start w) ?_)))); intro b1 W2 hb3 st4
 refine sg (aJ (cs := ds) rfl st4 ?_); intro b6 W7 hb8 st9
 refine sg (aC (v := .bool false) rfl (aB (wp_seq (wp_seq (aA ?_)))))
 have hk14 := hc
 obtain ⟨he14, rfl, hok14⟩ := hk14
 have he14 : _ = [I x.state, I x.need, I x.try_, I x.until_] := he14
 subst he14
 have hk15 := hd
 obtain ⟨he15, rfl, hok15⟩ := hk15
 have he15 : _ = [I y.state, I y.need, I y.try_, I y.until_] := he15
 subst he15
 refine rn st9 5 Ag.nil.put.put.put.put.put [] [(9, .bool (!decide (x.state = y.state)))] [qb 1 rfl 0, qb 0 rfl 0, .o] aE fun f16 h16_ => (aB (cB (h16_.at 9) (fun h17p => ?_) (fun h17p => ?_)))
 ·have h17 := gR h17p
  refine wp_seq (aA (sg (aC (v := .bool false) rfl (aB (wr (aL Tryz.results225 rfl ?_))))))
  exact ⟨fB (dZ (fun e => by subst e; first | exact h17p rfl | exact absurd (aW h17) (by rw [dB rfl]; decide) | exact absurd (aW h17) (by simp))).symm, st9.bare⟩
 ·have h17 := gS h17p
  refine wp_skip (wp_seq (wp_seq (aA (rn st9 5 h16_ [] [(14, .bool (!decide (x.need = y.need)))] [qb 1 rfl 1, qb 0 rfl 1, .o] aE fun f21 h21_ => (aB (cB (h21_.at 14) (fun h22p => ?_) (fun h22p => ?_)))))))
  ·have h22 := gR h22p
   refine wp_seq (aA (sg (aC (v := .bool false) rfl (aB (wr (aL Tryz.results225 rfl ?_))))))
   exact ⟨fB (dZ (fun e => by subst e; first | exact h22p rfl | exact absurd (aW h22) (by rw [dB rfl]; decide) | exact absurd (aW h22) (by simp))).symm, st9.bare⟩
  ·have h22 := gS h22p
   refine wp_skip (wp_seq (wp_seq (aA (rn st9 5 h21_ [] [(19, .bool (!decide (x.try_ = y.try_)))] [qb 1 rfl 2, qb 0 rfl 2, .o] aE fun f26 h26_ => (aB (cB (h26_.at 19) (fun h27p => ?_) (fun h27p => ?_)))))))
   ·have h27 := gR h27p
    refine wp_seq (aA (sg (aC (v := .bool false) rfl (aB (wr (aL Tryz.results225 rfl ?_))))))
    exact ⟨fB (dZ (fun e => by subst e; first | exact h27p rfl | exact absurd (aW h27) (by rw [dB rfl]; decide) | exact absurd (aW h27) (by simp))).symm, st9.bare⟩
   ·have h27 := gS h27p
    refine wp_skip (wp_seq (wp_seq (aA (rn st9 5 h26_ [] [(24, .bool (!decide (x.until_ = y.until_)))] [qb 1 rfl 3, qb 0 rfl 3, .o] aE fun f31 h31_ => (aB (cB (h31_.at 24) (fun h32p => ?_) (fun h32p => ?_)))))))
    ·have h32 := gR h32p
     refine wp_seq (aA (sg (aC (v := .bool false) rfl (aB (wr (aL Tryz.results225 rfl ?_))))))
     exact ⟨fB (dZ (fun e => by subst e; first | exact h32p rfl | exact absurd (aW h32) (by rw [dB rfl]; decide) | exact absurd (aW h32) (by simp))).symm, st9.bare⟩
    ·have h32 := gS h32p
     refine wp_skip (wp_seq (aA (sg (aC (v := .bool true) rfl (aB (wr (aL Tryz.results225 rfl ?_)))))))
     exact ⟨fB (dB (Task_ext h17p h22p h27p h32p)).symm, st9.bare⟩
theorem eqTaskS_n (w : World) {v u : Value} {xs ys : List Task} {fp gp : List Nat} (h : Sl w v xs fp) (g : Sl w u ys gp) :
  Calls Tryz.prog 180 #[v, u] w fun e w' => e = .returned (.bool (eqB xs ys)) ∧ St w w' [] := by
 have hcap := h.len_le
 have hcap2 := g.len_le
 refine bR Tryz.func180 rfl Tryz.ntmps180 aX (wp_seq (aA (sg (aC (v := .bool false) rfl (aB (wp_seq (wp_seq (aA (rn (St.start w) 5 Ag.nil.put.put.put [] [(10, .bool (!decide ((xs.length : Int) = (ys.length : Int))))] [ql h, ql g, .o] aE fun f4 h4_ => (aB (cB (h4_.at 10) (fun h5p => ?_) (fun h5p => ?_))))))))))))
 ·refine wp_seq (aA (sg (aC (v := .bool false) rfl (aB (wr (aL Tryz.results180 rfl ?_))))))
  exact ⟨fB (dZ (fun e => h5p (by rw [e]))).symm, (St.start w).bare⟩
 ·refine wp_skip (wp_seq (wp_seq (aA (sg (aC (v := I 0) rfl (aB (wp_block (aY (fun (m : Nat) (f : Nat → Value) (W : World) => ∃ (k : Nat), k ≤ xs.length ∧ xs.take k = ys.take k ∧ m = xs.length - k ∧ Ag [(0, v), (1, u), (5, I (k : Int))] f ∧ St w W ([])) (xs.length - 0) ?_ ?_))))))))
  ·exact ⟨0, Nat.zero_le _, rfl, rfl, (h4_.put.to aE), (St.start w)⟩
  intro m10 f11 W12 hJ13
  obtain ⟨k, hk, htk, rfl, hA15, st14⟩ := hJ13
  refine wp_seq (wp_seq (aA (rn st14 4 hA15 [] [(14, .bool (decide ((k : Int) < (xs.length : Int))))] [ql h, .o] aE fun f17 h17_ => (aB (aK (h17_.at 14) (fun h18p => ?_) (fun h18p => ?_))))))
  ·refine wp_skip (wp_seq (wp_block (wp_seq ?_)))
   have hi51fab : k < xs.length := aD
   have hq_ := idx h (i := k) hi51fab
   obtain ⟨b20, o20, cs20, f20, hp20, hr20, hc20, hm20⟩ := hq_
   have hk21 := hc20
   obtain ⟨he21, rfl, hok21⟩ := hk21
   have he21 : _ = [I (xs[k]'hi51fab).state, I (xs[k]'hi51fab).need, I (xs[k]'hi51fab).try_, I (xs[k]'hi51fab).until_] := he21
   subst he21
   have hi28e79 : k < ys.length := aD
   have hq_ := idx g (i := k) hi28e79
   obtain ⟨b22, o22, cs22, f22, hp22, hr22, hc22, hm22⟩ := hq_
   have hk23 := hc22
   obtain ⟨he23, rfl, hok23⟩ := hk23
   have he23 : _ = [I (ys[k]'hi28e79).state, I (ys[k]'hi28e79).need, I (ys[k]'hi28e79).try_, I (ys[k]'hi28e79).until_] := he23
   subst he23
   refine rd st14 h17_ [] [(26, .bool (!(eqB (xs[k]'hi51fab) (ys[k]'hi28e79))))] [qx hp20, qr hr20 0, qx hp22, qr hr22 0, qc (args := [.agg #[I (xs[k]'hi51fab).state, I (xs[k]'hi51fab).need, I (xs[k]'hi51fab).try_, I (xs[k]'hi51fab).until_], .agg #[I (ys[k]'hi28e79).state, I (ys[k]'hi28e79).need, I (ys[k]'hi28e79).try_, I (ys[k]'hi28e79).until_]]) (v := .bool (eqB (xs[k]'hi51fab) (ys[k]'hi28e79))) Tryz.func225 rfl (fun W s b => eqTask_n W hc20 hc22), .o] aE aE fun f24 W25 h24_ st26 hb27 => (cT (h24_.at 26) (fun h28 => ?_) (fun h28 => ?_))
   ·refine wp_seq (aA (sg (aC (v := .bool false) rfl (aB (wr (aL Tryz.results180 rfl ?_))))))
    have hne : ¬ xs[k] = ys[k]'(by omega) := fun e => absurd (aW h28) (by rw [dB e]; decide)
    exact ⟨fB (dZ (fun e => hne (by subst e; rfl))).symm, st26.bare⟩
   ·refine wp_skip (aA (rn st26 3 h24_ [5] [(5, I ((k : Int) + 1))] [qad (k : Int) 1] aE fun f32 h32_ => (aB ?_)))
    exact ⟨_, xs.length - (k + 1), aD, rfl, k + 1, aD, (gO aD aD htk (eqB_iff.1 (bG h28))), rfl, (h32_.to aE), st26⟩
  ·refine wp_exit (wp_seq (aA (sg (aC (v := .bool true) rfl (aB (wr (aL Tryz.results180 rfl ?_)))))))
   obtain rfl : k = xs.length := by omega
   rw [List.take_length, List.take_of_length_le aD] at htk
   exact ⟨fB (dB htk).symm, st14.bare⟩
theorem Run_ext {x y : Run} (h0 : x.id = y.id) (h1 : x.plan = y.plan) (h2 : x.state = y.state) (h3 : x.tasks = y.tasks) : x = y := by
 cases x; cases y; simp only at *; subst_vars; rfl
theorem eqRun_n (w : World) {x y : Run} {cs ds : List Value} {fp gp : List Nat} (hc : Shape.C w cs x fp) (hd : Shape.C w ds y gp) :
  Calls Tryz.prog 114 #[.agg cs.toArray, .agg ds.toArray] w fun e w' => e = .returned (.bool (eqB x y)) ∧ St w w' [] := by
 refine bR Tryz.func114 rfl Tryz.ntmps114 aX (wp_seq (aA (sg (aJ (cs := cs) rfl (St.start w) ?_)))); intro b1 W2 hb3 st4
 refine sg (aJ (cs := ds) rfl st4 ?_); intro b6 W7 hb8 st9
 refine sg (aC (v := .bool false) rfl (aB (wp_seq (wp_seq (aA ?_)))))
 have hk14 := hc
 obtain ⟨v14_0, v14_1, g14_0, g14_1, rfl, hok14, h14_0, h14_1, rfl⟩ := hk14
 have hk15 := hd
 obtain ⟨v15_0, v15_1, g15_0, g15_1, rfl, hok15, h15_0, h15_1, rfl⟩ := hk15
 refine rn st9 5 Ag.nil.put.put.put.put.put [] [(9, .bool (!decide (x.id = y.id)))] [qb 1 rfl 0, qb 0 rfl 0, .o] aE fun f16 h16_ => (aB (cB (h16_.at 9) (fun h17p => ?_) (fun h17p => ?_)))
 ·have h17 := gR h17p
  refine wp_seq (aA (sg (aC (v := .bool false) rfl (aB (wr (aL Tryz.results114 rfl ?_))))))
  exact ⟨fB (dZ (fun e => by subst e; first | exact h17p rfl | exact absurd (aW h17) (by rw [dB rfl]; decide) | exact absurd (aW h17) (by simp))).symm, st9.bare⟩
 ·have h17 := gS h17p
  refine wp_skip (wp_seq (wp_seq (aA (rc st9 6 h16_ [] [(15, .bool (!(eqB x.plan y.plan)))] [qb 1 rfl 1, qb 0 rfl 1, qc Tryz.func179 rfl (fun W s b => eqPlan_n W (show Shape.C _ [I x.plan.prio, I x.plan.most, I x.plan.wait, I x.plan.tasks, v14_0] x.plan _ from ⟨_, _, rfl, eS, (h14_0.below s.below), rfl⟩) (show Shape.C _ [I y.plan.prio, I y.plan.most, I y.plan.wait, I y.plan.tasks, v15_0] y.plan _ from ⟨_, _, rfl, eS, (h15_0.below s.below), rfl⟩)), .o] aE fun f21 W22 h21_ st23 hb24 => (aB (cT (h21_.at 15) (fun h25 => ?_) (fun h25 => ?_)))))))
  ·refine wp_seq (aA (sg (aC (v := .bool false) rfl (aB (wr (aL Tryz.results114 rfl ?_))))))
   exact ⟨fB (dZ (fun e => by subst e; first | exact absurd (aW h25) (by rw [dB rfl]; decide) | exact absurd (aW h25) (by simp))).symm, st23.bare⟩
  ·refine wp_skip (wp_seq (wp_seq (aA (rn st23 5 h21_ [] [(20, .bool (!decide (x.state = y.state)))] [qb 1 rfl 6, qb 0 rfl 6, .o] aE fun f29 h29_ => (aB (cB (h29_.at 20) (fun h30p => ?_) (fun h30p => ?_)))))))
   ·have h30 := gR h30p
    refine wp_seq (aA (sg (aC (v := .bool false) rfl (aB (wr (aL Tryz.results114 rfl ?_))))))
    exact ⟨fB (dZ (fun e => by subst e; first | exact h30p rfl | exact absurd (aW h30) (by rw [dB rfl]; decide) | exact absurd (aW h30) (by simp))).symm, st23.bare⟩
   ·have h30 := gS h30p
    refine wp_skip (wp_seq (wp_seq (aA (rc st23 6 h29_ [] [(26, .bool (!(eqB x.tasks y.tasks)))] [qb 1 rfl 7, qb 0 rfl 7, qc Tryz.func180 rfl (fun W s b => eqTaskS_n W (h14_1.below s.below) (h15_1.below s.below)), .o] aE fun f34 W35 h34_ st36 hb37 => (aB (cT (h34_.at 26) (fun h38 => ?_) (fun h38 => ?_)))))))
    ·refine wp_seq (aA (sg (aC (v := .bool false) rfl (aB (wr (aL Tryz.results114 rfl ?_))))))
     exact ⟨fB (dZ (fun e => by subst e; first | exact absurd (aW h38) (by rw [dB rfl]; decide) | exact absurd (aW h38) (by simp))).symm, st36.bare⟩
    ·refine wp_skip (wp_seq (aA (sg (aC (v := .bool true) rfl (aB (wr (aL Tryz.results114 rfl ?_)))))))
     exact ⟨fB (dB (Run_ext h17p (eqB_iff.1 (bG h25)) h30p (eqB_iff.1 (bG h38)))).symm, st36.bare⟩
theorem eqRunS_n (w : World) {v u : Value} {xs ys : List Run} {fp gp : List Nat} (h : Sl w v xs fp) (g : Sl w u ys gp) :
  Calls Tryz.prog 56 #[v, u] w fun e w' => e = .returned (.bool (eqB xs ys)) ∧ St w w' [] := by
 have hcap := h.len_le
 have hcap2 := g.len_le
 refine bR Tryz.func56 rfl Tryz.ntmps56 aX (wp_seq (aA (sg (aC (v := .bool false) rfl (aB (wp_seq (wp_seq (aA (rn (St.start w) 5 Ag.nil.put.put.put [] [(10, .bool (!decide ((xs.length : Int) = (ys.length : Int))))] [ql h, ql g, .o] aE fun f4 h4_ => (aB (cB (h4_.at 10) (fun h5p => ?_) (fun h5p => ?_))))))))))))
 ·refine wp_seq (aA (sg (aC (v := .bool false) rfl (aB (wr (aL Tryz.results56 rfl ?_))))))
  exact ⟨fB (dZ (fun e => h5p (by rw [e]))).symm, (St.start w).bare⟩
 ·refine wp_skip (wp_seq (wp_seq (aA (sg (aC (v := I 0) rfl (aB (wp_block (aY (fun (m : Nat) (f : Nat → Value) (W : World) => ∃ (k : Nat), k ≤ xs.length ∧ xs.take k = ys.take k ∧ m = xs.length - k ∧ Ag [(0, v), (1, u), (5, I (k : Int))] f ∧ St w W ([])) (xs.length - 0) ?_ ?_))))))))
  ·exact ⟨0, Nat.zero_le _, rfl, rfl, (h4_.put.to aE), (St.start w)⟩
  intro m10 f11 W12 hJ13
  obtain ⟨k, hk, htk, rfl, hA15, st14⟩ := hJ13
  refine wp_seq (wp_seq (aA (rn st14 4 hA15 [] [(14, .bool (decide ((k : Int) < (xs.length : Int))))] [ql h, .o] aE fun f17 h17_ => (aB (aK (h17_.at 14) (fun h18p => ?_) (fun h18p => ?_))))))
  ·refine wp_skip (wp_seq (wp_block (wp_seq ?_)))
   have hi51fab : k < xs.length := aD
   have hq_ := idx h (i := k) hi51fab
   obtain ⟨b20, o20, cs20, f20, hp20, hr20, hc20, hm20⟩ := hq_
   have hi28e79 : k < ys.length := aD
   have hq_ := idx g (i := k) hi28e79
   obtain ⟨b21, o21, cs21, f21, hp21, hr21, hc21, hm21⟩ := hq_
   refine rd st14 h17_ [] [(26, .bool (!(eqB (xs[k]'hi51fab) (ys[k]'hi28e79))))] [qx hp20, qrw hr20 (Shape.len hc20), qx hp21, qrw hr21 (Shape.len hc21), qc (args := [.agg cs20.toArray, .agg cs21.toArray]) (v := .bool (eqB (xs[k]'hi51fab) (ys[k]'hi28e79))) Tryz.func114 rfl (fun W s b => eqRun_n W (bA hc20 s.below) (bA hc21 s.below)), .o] aE aE fun f22 W23 h22_ st24 hb25 => (cT (h22_.at 26) (fun h26 => ?_) (fun h26 => ?_))
   ·refine wp_seq (aA (sg (aC (v := .bool false) rfl (aB (wr (aL Tryz.results56 rfl ?_))))))
    have hne : ¬ xs[k] = ys[k]'(by omega) := fun e => absurd (aW h26) (by rw [dB e]; decide)
    exact ⟨fB (dZ (fun e => hne (by subst e; rfl))).symm, st24.bare⟩
   ·refine wp_skip (aA (rn st24 3 h22_ [5] [(5, I ((k : Int) + 1))] [qad (k : Int) 1] aE fun f30 h30_ => (aB ?_)))
    exact ⟨_, xs.length - (k + 1), aD, rfl, k + 1, aD, (gO aD aD htk (eqB_iff.1 (bG h26))), rfl, (h30_.to aE), st24⟩
  ·refine wp_exit (wp_seq (aA (sg (aC (v := .bool true) rfl (aB (wr (aL Tryz.results56 rfl ?_)))))))
   obtain rfl : k = xs.length := by omega
   rw [List.take_length, List.take_of_length_le aD] at htk
   exact ⟨fB (dB htk).symm, st14.bare⟩
theorem eqEntrySS_n (w : World) {v u : Value} {xs ys : List (List Entry)} {fp gp : List Nat} (h : Sl w v xs fp) (g : Sl w u ys gp) :
  Calls Tryz.prog 55 #[v, u] w fun e w' => e = .returned (.bool (eqB xs ys)) ∧ St w w' [] := by
 have hcap := h.len_le
 have hcap2 := g.len_le
 refine bR Tryz.func55 rfl Tryz.ntmps55 aX (wp_seq (aA (sg (aC (v := .bool false) rfl (aB (wp_seq (wp_seq (aA (rn (St.start w) 5 Ag.nil.put.put.put [] [(10, .bool (!decide ((xs.length : Int) = (ys.length : Int))))] [ql h, ql g, .o] aE fun f4 h4_ => (aB (cB (h4_.at 10) (fun h5p => ?_) (fun h5p => ?_))))))))))))
 ·refine wp_seq (aA (sg (aC (v := .bool false) rfl (aB (wr (aL Tryz.results55 rfl ?_))))))
  exact ⟨fB (dZ (fun e => h5p (by rw [e]))).symm, (St.start w).bare⟩
 ·refine wp_skip (wp_seq (wp_seq (aA (sg (aC (v := I 0) rfl (aB (wp_block (aY (fun (m : Nat) (f : Nat → Value) (W : World) => ∃ (k : Nat), k ≤ xs.length ∧ xs.take k = ys.take k ∧ m = xs.length - k ∧ Ag [(0, v), (1, u), (5, I (k : Int))] f ∧ St w W ([])) (xs.length - 0) ?_ ?_))))))))
  ·exact ⟨0, Nat.zero_le _, rfl, rfl, (h4_.put.to aE), (St.start w)⟩
  intro m10 f11 W12 hJ13
  obtain ⟨k, hk, htk, rfl, hA15, st14⟩ := hJ13
  refine wp_seq (wp_seq (aA (rn st14 4 hA15 [] [(14, .bool (decide ((k : Int) < (xs.length : Int))))] [ql h, .o] aE fun f17 h17_ => (aB (aK (h17_.at 14) (fun h18p => ?_) (fun h18p => ?_))))))
  ·refine wp_skip (wp_seq (wp_block (wp_seq ?_)))
   have hi51fab : k < xs.length := aD
   have hq_ := idx h (i := k) hi51fab
   obtain ⟨b20, o20, cs20, f20, hp20, hr20, hc20, hm20⟩ := hq_
   have hk20 := hc20
   obtain ⟨v21, rfl, h22⟩ := hk20
   have hi28e79 : k < ys.length := aD
   have hq_ := idx g (i := k) hi28e79
   obtain ⟨b23, o23, cs23, f23, hp23, hr23, hc23, hm23⟩ := hq_
   have hk23 := hc23
   obtain ⟨v24, rfl, h25⟩ := hk23
   refine rd st14 h17_ [] [(26, .bool (!(eqB (xs[k]'hi51fab) (ys[k]'hi28e79))))] [qx hp20, qr hr20 0, qx hp23, qr hr23 0, qc (args := [v21, v24]) (v := .bool (eqB (xs[k]'hi51fab) (ys[k]'hi28e79))) Tryz.func113 rfl (fun W s b => eqEntryS_n W (h22.below s.below) (h25.below s.below)), .o] aE aE fun f26 W27 h26_ st28 hb29 => (cT (h26_.at 26) (fun h30 => ?_) (fun h30 => ?_))
   ·refine wp_seq (aA (sg (aC (v := .bool false) rfl (aB (wr (aL Tryz.results55 rfl ?_))))))
    have hne : ¬ xs[k] = ys[k]'(by omega) := fun e => absurd (aW h30) (by rw [dB e]; decide)
    exact ⟨fB (dZ (fun e => hne (by subst e; rfl))).symm, st28.bare⟩
   ·refine wp_skip (aA (rn st28 3 h26_ [5] [(5, I ((k : Int) + 1))] [qad (k : Int) 1] aE fun f34 h34_ => (aB ?_)))
    exact ⟨_, xs.length - (k + 1), aD, rfl, k + 1, aD, (gO aD aD htk (eqB_iff.1 (bG h30))), rfl, (h34_.to aE), st28⟩
  ·refine wp_exit (wp_seq (aA (sg (aC (v := .bool true) rfl (aB (wr (aL Tryz.results55 rfl ?_)))))))
   obtain rfl : k = xs.length := by omega
   rw [List.take_length, List.take_of_length_le aD] at htk
   exact ⟨fB (dB htk).symm, st14.bare⟩
theorem Yard_ext {x y : Yard} (h0 : x.now = y.now) (h1 : x.seq = y.seq) (h2 : x.shelf = y.shelf) (h3 : x.runs = y.runs) : x = y := by
 cases x; cases y; simp only at *; subst_vars; rfl
theorem eqYard_n (w : World) {x y : Yard} {cs ds : List Value} {fp gp : List Nat} (hc : Shape.C w cs x fp) (hd : Shape.C w ds y gp) :
  Calls Tryz.prog 19 #[.agg cs.toArray, .agg ds.toArray] w fun e w' => e = .returned (.bool (eqB x y)) ∧ St w w' [] := by
 refine bR Tryz.func19 rfl Tryz.ntmps19 aX (wp_seq (aA (sg (aJ (cs := cs) rfl (St.start w) ?_)))); intro b1 W2 hb3 st4
 refine sg (aJ (cs := ds) rfl st4 ?_); intro b6 W7 hb8 st9
 refine sg (aC (v := .bool false) rfl (aB (wp_seq (wp_seq (aA ?_)))))
 have hk14 := hc
 obtain ⟨v14_0, v14_1, g14_0, g14_1, rfl, hok14, h14_0, h14_1, rfl⟩ := hk14
 have hk15 := hd
 obtain ⟨v15_0, v15_1, g15_0, g15_1, rfl, hok15, h15_0, h15_1, rfl⟩ := hk15
 refine rn st9 5 Ag.nil.put.put.put.put.put [] [(9, .bool (!decide (x.now = y.now)))] [qb 1 rfl 0, qb 0 rfl 0, .o] aE fun f16 h16_ => (aB (cB (h16_.at 9) (fun h17p => ?_) (fun h17p => ?_)))
 ·have h17 := gR h17p
  refine wp_seq (aA (sg (aC (v := .bool false) rfl (aB (wr (aL Tryz.results19 rfl ?_))))))
  exact ⟨fB (dZ (fun e => by subst e; first | exact h17p rfl | exact absurd (aW h17) (by rw [dB rfl]; decide) | exact absurd (aW h17) (by simp))).symm, st9.bare⟩
 ·have h17 := gS h17p
  refine wp_skip (wp_seq (wp_seq (aA (rn st9 5 h16_ [] [(14, .bool (!decide (x.seq = y.seq)))] [qb 1 rfl 1, qb 0 rfl 1, .o] aE fun f21 h21_ => (aB (cB (h21_.at 14) (fun h22p => ?_) (fun h22p => ?_)))))))
  ·have h22 := gR h22p
   refine wp_seq (aA (sg (aC (v := .bool false) rfl (aB (wr (aL Tryz.results19 rfl ?_))))))
   exact ⟨fB (dZ (fun e => by subst e; first | exact h22p rfl | exact absurd (aW h22) (by rw [dB rfl]; decide) | exact absurd (aW h22) (by simp))).symm, st9.bare⟩
  ·have h22 := gS h22p
   refine wp_skip (wp_seq (wp_seq (aA (rc st9 6 h21_ [] [(20, .bool (!(eqB x.shelf y.shelf)))] [qb 1 rfl 2, qb 0 rfl 2, qc Tryz.func55 rfl (fun W s b => eqEntrySS_n W (h14_0.below s.below) (h15_0.below s.below)), .o] aE fun f26 W27 h26_ st28 hb29 => (aB (cT (h26_.at 20) (fun h30 => ?_) (fun h30 => ?_)))))))
   ·refine wp_seq (aA (sg (aC (v := .bool false) rfl (aB (wr (aL Tryz.results19 rfl ?_))))))
    exact ⟨fB (dZ (fun e => by subst e; first | exact absurd (aW h30) (by rw [dB rfl]; decide) | exact absurd (aW h30) (by simp))).symm, st28.bare⟩
   ·refine wp_skip (wp_seq (wp_seq (aA (rc st28 6 h26_ [] [(26, .bool (!(eqB x.runs y.runs)))] [qb 1 rfl 3, qb 0 rfl 3, qc Tryz.func56 rfl (fun W s b => eqRunS_n W (h14_1.below s.below) (h15_1.below s.below)), .o] aE fun f34 W35 h34_ st36 hb37 => (aB (cT (h34_.at 26) (fun h38 => ?_) (fun h38 => ?_)))))))
    ·refine wp_seq (aA (sg (aC (v := .bool false) rfl (aB (wr (aL Tryz.results19 rfl ?_))))))
     exact ⟨fB (dZ (fun e => by subst e; first | exact absurd (aW h38) (by rw [dB rfl]; decide) | exact absurd (aW h38) (by simp))).symm, st36.bare⟩
    ·refine wp_skip (wp_seq (aA (sg (aC (v := .bool true) rfl (aB (wr (aL Tryz.results19 rfl ?_)))))))
     exact ⟨fB (dB (Yard_ext h17p h22p (eqB_iff.1 (bG h30)) (eqB_iff.1 (bG h38)))).symm, st36.bare⟩
theorem Reply_ext {x y : Reply} (h0 : x.code = y.code) (h1 : x.run = y.run) (h2 : x.task = y.task) (h3 : x.try_ = y.try_) : x = y := by
 cases x; cases y; simp only at *; subst_vars; rfl
theorem eqReply_n (w : World) {x y : Reply} {cs ds : List Value} {fp gp : List Nat} (hc : Shape.C w cs x fp) (hd : Shape.C w ds y gp) :
  Calls Tryz.prog 101 #[.agg cs.toArray, .agg ds.toArray] w fun e w' => e = .returned (.bool (eqB x y)) ∧ St w w' [] := by
 refine bR Tryz.func101 rfl Tryz.ntmps101 aX (wp_seq (aA (sg (aJ (cs := cs) rfl (St.start w) ?_)))); intro b1 W2 hb3 st4
 refine sg (aJ (cs := ds) rfl st4 ?_); intro b6 W7 hb8 st9
 refine sg (aC (v := .bool false) rfl (aB (wp_seq (wp_seq (aA ?_)))))
 have hk14 := hc
 obtain ⟨he14, rfl, hok14⟩ := hk14
 have he14 : _ = [I x.code, I x.run, I x.task, I x.try_] := he14
 subst he14
 have hk15 := hd
 obtain ⟨he15, rfl, hok15⟩ := hk15
 have he15 : _ = [I y.code, I y.run, I y.task, I y.try_] := he15
 subst he15
 refine rn st9 5 Ag.nil.put.put.put.put.put [] [(9, .bool (!decide (x.code = y.code)))] [qb 1 rfl 0, qb 0 rfl 0, .o] aE fun f16 h16_ => (aB (cB (h16_.at 9) (fun h17p => ?_) (fun h17p => ?_)))
 ·have h17 := gR h17p
  refine wp_seq (aA (sg (aC (v := .bool false) rfl (aB (wr (aL Tryz.results101 rfl ?_))))))
  exact ⟨fB (dZ (fun e => by subst e; first | exact h17p rfl | exact absurd (aW h17) (by rw [dB rfl]; decide) | exact absurd (aW h17) (by simp))).symm, st9.bare⟩
 ·have h17 := gS h17p
  refine wp_skip (wp_seq (wp_seq (aA (rn st9 5 h16_ [] [(14, .bool (!decide (x.run = y.run)))] [qb 1 rfl 1, qb 0 rfl 1, .o] aE fun f21 h21_ => (aB (cB (h21_.at 14) (fun h22p => ?_) (fun h22p => ?_)))))))
  ·have h22 := gR h22p
   refine wp_seq (aA (sg (aC (v := .bool false) rfl (aB (wr (aL Tryz.results101 rfl ?_))))))
   exact ⟨fB (dZ (fun e => by subst e; first | exact h22p rfl | exact absurd (aW h22) (by rw [dB rfl]; decide) | exact absurd (aW h22) (by simp))).symm, st9.bare⟩
  ·have h22 := gS h22p
   refine wp_skip (wp_seq (wp_seq (aA (rn st9 5 h21_ [] [(19, .bool (!decide (x.task = y.task)))] [qb 1 rfl 2, qb 0 rfl 2, .o] aE fun f26 h26_ => (aB (cB (h26_.at 19) (fun h27p => ?_) (fun h27p => ?_)))))))
   ·have h27 := gR h27p
    refine wp_seq (aA (sg (aC (v := .bool false) rfl (aB (wr (aL Tryz.results101 rfl ?_))))))
    exact ⟨fB (dZ (fun e => by subst e; first | exact h27p rfl | exact absurd (aW h27) (by rw [dB rfl]; decide) | exact absurd (aW h27) (by simp))).symm, st9.bare⟩
   ·have h27 := gS h27p
    refine wp_skip (wp_seq (wp_seq (aA (rn st9 5 h26_ [] [(24, .bool (!decide (x.try_ = y.try_)))] [qb 1 rfl 3, qb 0 rfl 3, .o] aE fun f31 h31_ => (aB (cB (h31_.at 24) (fun h32p => ?_) (fun h32p => ?_)))))))
    ·have h32 := gR h32p
     refine wp_seq (aA (sg (aC (v := .bool false) rfl (aB (wr (aL Tryz.results101 rfl ?_))))))
     exact ⟨fB (dZ (fun e => by subst e; first | exact h32p rfl | exact absurd (aW h32) (by rw [dB rfl]; decide) | exact absurd (aW h32) (by simp))).symm, st9.bare⟩
    ·have h32 := gS h32p
     refine wp_skip (wp_seq (aA (sg (aC (v := .bool true) rfl (aB (wr (aL Tryz.results101 rfl ?_)))))))
     exact ⟨fB (dB (Reply_ext h17p h22p h27p h32p)).symm, st9.bare⟩
theorem eqReplyS_n (w : World) {v u : Value} {xs ys : List Reply} {fp gp : List Nat} (h : Sl w v xs fp) (g : Sl w u ys gp) :
  Calls Tryz.prog 48 #[v, u] w fun e w' => e = .returned (.bool (eqB xs ys)) ∧ St w w' [] := by
 have hcap := h.len_le
 have hcap2 := g.len_le
 refine bR Tryz.func48 rfl Tryz.ntmps48 aX (wp_seq (aA (sg (aC (v := .bool false) rfl (aB (wp_seq (wp_seq (aA (rn (St.start w) 5 Ag.nil.put.put.put [] [(10, .bool (!decide ((xs.length : Int) = (ys.length : Int))))] [ql h, ql g, .o] aE fun f4 h4_ => (aB (cB (h4_.at 10) (fun h5p => ?_) (fun h5p => ?_))))))))))))
 ·refine wp_seq (aA (sg (aC (v := .bool false) rfl (aB (wr (aL Tryz.results48 rfl ?_))))))
  exact ⟨fB (dZ (fun e => h5p (by rw [e]))).symm, (St.start w).bare⟩
 ·refine wp_skip (wp_seq (wp_seq (aA (sg (aC (v := I 0) rfl (aB (wp_block (aY (fun (m : Nat) (f : Nat → Value) (W : World) => ∃ (k : Nat), k ≤ xs.length ∧ xs.take k = ys.take k ∧ m = xs.length - k ∧ Ag [(0, v), (1, u), (5, I (k : Int))] f ∧ St w W ([])) (xs.length - 0) ?_ ?_))))))))
  ·exact ⟨0, Nat.zero_le _, rfl, rfl, (h4_.put.to aE), (St.start w)⟩
  intro m10 f11 W12 hJ13
  obtain ⟨k, hk, htk, rfl, hA15, st14⟩ := hJ13
  refine wp_seq (wp_seq (aA (rn st14 4 hA15 [] [(14, .bool (decide ((k : Int) < (xs.length : Int))))] [ql h, .o] aE fun f17 h17_ => (aB (aK (h17_.at 14) (fun h18p => ?_) (fun h18p => ?_))))))
  ·refine wp_skip (wp_seq (wp_block (wp_seq ?_)))
   have hi51fab : k < xs.length := aD
   have hq_ := idx h (i := k) hi51fab
   obtain ⟨b20, o20, cs20, f20, hp20, hr20, hc20, hm20⟩ := hq_
   have hk21 := hc20
   obtain ⟨he21, rfl, hok21⟩ := hk21
   have he21 : _ = [I (xs[k]'hi51fab).code, I (xs[k]'hi51fab).run, I (xs[k]'hi51fab).task, I (xs[k]'hi51fab).try_] := he21
   subst he21
   have hi28e79 : k < ys.length := aD
   have hq_ := idx g (i := k) hi28e79
   obtain ⟨b22, o22, cs22, f22, hp22, hr22, hc22, hm22⟩ := hq_
   have hk23 := hc22
   obtain ⟨he23, rfl, hok23⟩ := hk23
   have he23 : _ = [I (ys[k]'hi28e79).code, I (ys[k]'hi28e79).run, I (ys[k]'hi28e79).task, I (ys[k]'hi28e79).try_] := he23
   subst he23
   refine rd st14 h17_ [] [(26, .bool (!(eqB (xs[k]'hi51fab) (ys[k]'hi28e79))))] [qx hp20, qr hr20 0, qx hp22, qr hr22 0, qc (args := [.agg #[I (xs[k]'hi51fab).code, I (xs[k]'hi51fab).run, I (xs[k]'hi51fab).task, I (xs[k]'hi51fab).try_], .agg #[I (ys[k]'hi28e79).code, I (ys[k]'hi28e79).run, I (ys[k]'hi28e79).task, I (ys[k]'hi28e79).try_]]) (v := .bool (eqB (xs[k]'hi51fab) (ys[k]'hi28e79))) Tryz.func101 rfl (fun W s b => eqReply_n W hc20 hc22), .o] aE aE fun f24 W25 h24_ st26 hb27 => (cT (h24_.at 26) (fun h28 => ?_) (fun h28 => ?_))
   ·refine wp_seq (aA (sg (aC (v := .bool false) rfl (aB (wr (aL Tryz.results48 rfl ?_))))))
    have hne : ¬ xs[k] = ys[k]'(by omega) := fun e => absurd (aW h28) (by rw [dB e]; decide)
    exact ⟨fB (dZ (fun e => hne (by subst e; rfl))).symm, st26.bare⟩
   ·refine wp_skip (aA (rn st26 3 h24_ [5] [(5, I ((k : Int) + 1))] [qad (k : Int) 1] aE fun f32 h32_ => (aB ?_)))
    exact ⟨_, xs.length - (k + 1), aD, rfl, k + 1, aD, (gO aD aD htk (eqB_iff.1 (bG h28))), rfl, (h32_.to aE), st26⟩
  ·refine wp_exit (wp_seq (aA (sg (aC (v := .bool true) rfl (aB (wr (aL Tryz.results48 rfl ?_)))))))
   obtain rfl : k = xs.length := by omega
   rw [List.take_length, List.take_of_length_le aD] at htk
   exact ⟨fB (dB htk).symm, st14.bare⟩
theorem eqIntS_n (w : World) {v u : Value} {xs ys : List Int} {fp gp : List Nat} (h : Sl w v xs fp) (g : Sl w u ys gp) :
  Calls Tryz.prog 26 #[v, u] w fun e w' => e = .returned (.bool (eqB xs ys)) ∧ St w w' [] := by
 have hcap := h.len_le
 have hcap2 := g.len_le
 refine bR Tryz.func26 rfl Tryz.ntmps26 aX (wp_seq (aA (sg (aC (v := .bool false) rfl (aB (wp_seq (wp_seq (aA (rn (St.start w) 5 Ag.nil.put.put.put [] [(10, .bool (!decide ((xs.length : Int) = (ys.length : Int))))] [ql h, ql g, .o] aE fun f4 h4_ => (aB (cB (h4_.at 10) (fun h5p => ?_) (fun h5p => ?_))))))))))))
 ·refine wp_seq (aA (sg (aC (v := .bool false) rfl (aB (wr (aL Tryz.results26 rfl ?_))))))
  exact ⟨fB (dZ (fun e => h5p (by rw [e]))).symm, (St.start w).bare⟩
 ·refine wp_skip (wp_seq (wp_seq (aA (sg (aC (v := I 0) rfl (aB (wp_block (aY (fun (m : Nat) (f : Nat → Value) (W : World) => ∃ (k : Nat), k ≤ xs.length ∧ xs.take k = ys.take k ∧ m = xs.length - k ∧ Ag [(0, v), (1, u), (5, I (k : Int))] f ∧ St w W ([])) (xs.length - 0) ?_ ?_))))))))
  ·exact ⟨0, Nat.zero_le _, rfl, rfl, (h4_.put.to aE), (St.start w)⟩
  intro m10 f11 W12 hJ13
  obtain ⟨k, hk, htk, rfl, hA15, st14⟩ := hJ13
  refine wp_seq (wp_seq (aA (rn st14 4 hA15 [] [(14, .bool (decide ((k : Int) < (xs.length : Int))))] [ql h, .o] aE fun f17 h17_ => (aB (aK (h17_.at 14) (fun h18p => ?_) (fun h18p => ?_))))))
  ·refine wp_skip (wp_seq (wp_block (wp_seq ?_)))
   have hi51fab : k < xs.length := aD
   have hq_ := idx h (i := k) hi51fab
   obtain ⟨b20, o20, cs20, f20, hp20, hr20, hc20, hm20⟩ := hq_
   have hk20 := hc20
   obtain ⟨rfl, rfl, hok20⟩ := hk20
   have hi28e79 : k < ys.length := aD
   have hq_ := idx g (i := k) hi28e79
   obtain ⟨b21, o21, cs21, f21, hp21, hr21, hc21, hm21⟩ := hq_
   have hk21 := hc21
   obtain ⟨rfl, rfl, hok21⟩ := hk21
   refine rd st14 h17_ [] [(25, .bool (!decide ((xs[k]'hi51fab) = (ys[k]'hi28e79))))] [qx hp20, qr hr20 0, qx hp21, qr hr21 0, .o] aE aE fun f22 W23 h22_ st24 hb25 => (cB (h22_.at 25) (fun h26p => ?_) (fun h26p => ?_))
   ·refine wp_seq (aA (sg (aC (v := .bool false) rfl (aB (wr (aL Tryz.results26 rfl ?_))))))
    have hne : ¬ xs[k] = ys[k]'(by omega) := h26p
    exact ⟨fB (dZ (fun e => hne (by subst e; rfl))).symm, st24.bare⟩
   ·refine wp_skip (aA (rn st24 3 h22_ [5] [(5, I ((k : Int) + 1))] [qad (k : Int) 1] aE fun f30 h30_ => (aB ?_)))
    exact ⟨_, xs.length - (k + 1), aD, rfl, k + 1, aD, (gO aD aD htk h26p), rfl, (h30_.to aE), st24⟩
  ·refine wp_exit (wp_seq (aA (sg (aC (v := .bool true) rfl (aB (wr (aL Tryz.results26 rfl ?_)))))))
   obtain rfl : k = xs.length := by omega
   rw [List.take_length, List.take_of_length_le aD] at htk
   exact ⟨fB (dB htk).symm, st14.bare⟩
theorem Crew_ext {x y : Crew} (h0 : x.yard = y.yard) (h1 : x.holds = y.holds) (h2 : x.turns = y.turns) (h3 : x.did = y.did) : x = y := by
 cases x; cases y; simp only at *; subst_vars; rfl
theorem qZ (w : World) {x y : Crew} {cs ds : List Value} {fp gp : List Nat} (hc : Shape.C w cs x fp) (hd : Shape.C w ds y gp) :
  Calls Tryz.prog 14 #[.agg cs.toArray, .agg ds.toArray] w fun e w' => e = .returned (.bool (eqB x y)) ∧ St w w' [] := by
 refine bR Tryz.func14 rfl Tryz.ntmps14 aX (wp_seq (aA (sg (aJ (cs := cs) rfl (St.start w) ?_)))); intro b1 W2 hb3 st4
 refine sg (aJ (cs := ds) rfl st4 ?_); intro b6 W7 hb8 st9
 refine sg (aC (v := .bool false) rfl (aB (wp_seq (wp_seq (aA ?_)))))
 have hk14 := hc
 obtain ⟨v14_0, v14_1, v14_2, g14_0, g14_1, g14_2, rfl, hok14, h14_0, h14_1, h14_2, rfl⟩ := hk14
 have hk15 := hd
 obtain ⟨v15_0, v15_1, v15_2, g15_0, g15_1, g15_2, rfl, hok15, h15_0, h15_1, h15_2, rfl⟩ := hk15
 refine rc st9 6 Ag.nil.put.put.put.put.put [] [(10, .bool (!(eqB x.yard y.yard)))] [qb 1 rfl 0, qb 0 rfl 0, qc Tryz.func19 rfl (fun W s b => eqYard_n W (show Shape.C _ [I x.yard.now, I x.yard.seq, v14_0, v14_1] x.yard _ from ⟨_, _, _, _, rfl, eS, (h14_0.below s.below), (h14_1.below s.below), rfl⟩) (show Shape.C _ [I y.yard.now, I y.yard.seq, v15_0, v15_1] y.yard _ from ⟨_, _, _, _, rfl, eS, (h15_0.below s.below), (h15_1.below s.below), rfl⟩)), .o] aE fun f16 W17 h16_ st18 hb19 => (aB (cT (h16_.at 10) (fun h20 => ?_) (fun h20 => ?_)))
 ·refine wp_seq (aA (sg (aC (v := .bool false) rfl (aB (wr (aL Tryz.results14 rfl ?_))))))
  exact ⟨fB (dZ (fun e => by subst e; first | exact absurd (aW h20) (by rw [dB rfl]; decide) | exact absurd (aW h20) (by simp))).symm, st18.bare⟩
 ·refine wp_skip (wp_seq (wp_seq (aA (rc st18 6 h16_ [] [(16, .bool (!(eqB x.holds y.holds)))] [qb 1 rfl 4, qb 0 rfl 4, qc Tryz.func48 rfl (fun W s b => eqReplyS_n W (h14_2.below s.below) (h15_2.below s.below)), .o] aE fun f24 W25 h24_ st26 hb27 => (aB (cT (h24_.at 16) (fun h28 => ?_) (fun h28 => ?_)))))))
  ·refine wp_seq (aA (sg (aC (v := .bool false) rfl (aB (wr (aL Tryz.results14 rfl ?_))))))
   exact ⟨fB (dZ (fun e => by subst e; first | exact absurd (aW h28) (by rw [dB rfl]; decide) | exact absurd (aW h28) (by simp))).symm, st26.bare⟩
  ·refine wp_skip (wp_seq (wp_seq (aA (rn st26 5 h24_ [] [(21, .bool (!decide (x.turns = y.turns)))] [qb 1 rfl 5, qb 0 rfl 5, .o] aE fun f32 h32_ => (aB (cB (h32_.at 21) (fun h33p => ?_) (fun h33p => ?_)))))))
   ·have h33 := gR h33p
    refine wp_seq (aA (sg (aC (v := .bool false) rfl (aB (wr (aL Tryz.results14 rfl ?_))))))
    exact ⟨fB (dZ (fun e => by subst e; first | exact h33p rfl | exact absurd (aW h33) (by rw [dB rfl]; decide) | exact absurd (aW h33) (by simp))).symm, st26.bare⟩
   ·have h33 := gS h33p
    refine wp_skip (wp_seq (wp_seq (aA (rn st26 5 h32_ [] [(26, .bool (!decide (x.did = y.did)))] [qb 1 rfl 6, qb 0 rfl 6, .o] aE fun f37 h37_ => (aB (cB (h37_.at 26) (fun h38p => ?_) (fun h38p => ?_)))))))
    ·have h38 := gR h38p
     refine wp_seq (aA (sg (aC (v := .bool false) rfl (aB (wr (aL Tryz.results14 rfl ?_))))))
     exact ⟨fB (dZ (fun e => by subst e; first | exact h38p rfl | exact absurd (aW h38) (by rw [dB rfl]; decide) | exact absurd (aW h38) (by simp))).symm, st26.bare⟩
    ·have h38 := gS h38p
     refine wp_skip (wp_seq (aA (sg (aC (v := .bool true) rfl (aB (wr (aL Tryz.results14 rfl ?_)))))))
     exact ⟨fB (dB (Crew_ext (eqB_iff.1 (bG h20)) (eqB_iff.1 (bG h28)) h33p h38p)).symm, st26.bare⟩
def Way (es : List Edge) : Int → List Int → Prop
 | _, [] => True
 | a, v :: vs => (⟨a, v⟩ : Edge) ∈ es ∧ Way es v vs
def Rch (es : List Edge) (a b : Int) : Prop := ∃ vs, Way es a (vs ++ [b])
theorem Way.append {es : List Edge} : ∀ {vs ws : List Int} {a : Int}, Way es a (vs ++ ws) ↔ Way es a vs ∧ Way es ((a :: vs).getLast (by simp)) ws
 | [], ws, a => by simp [Way]
 | v :: vs, ws, a => by
  simp only [List.cons_append, Way]
  rw [Way.append (vs := vs)]
  simp [List.getLast_cons, and_assoc]
theorem vT (a : Int) (vs : List Int) (b : Int) : (a :: (vs ++ [b])).getLast (List.cons_ne_nil _ _) = b := by
 rw [List.getLast_cons (by simp)]; simp
theorem Rch.one {es : List Edge} {a b : Int} (h : (⟨a, b⟩ : Edge) ∈ es) : Rch es a b := ⟨[], h, trivial⟩
theorem Rch.cons {es : List Edge} {a b c : Int} (h : (⟨a, b⟩ : Edge) ∈ es) (k : Rch es b c) : Rch es a c := by
 obtain ⟨vs, hv⟩ := k
 exact ⟨b :: vs, h, hv⟩
theorem Rch.cases {es : List Edge} {a c : Int} (h : Rch es a c) : (⟨a, c⟩ : Edge) ∈ es ∨ ∃ b, (⟨a, b⟩ : Edge) ∈ es ∧ Rch es b c := by
 obtain ⟨vs, hv⟩ := h
 cases vs with
 | nil => exact .inl hv.1
 | cons b vs => exact .inr ⟨b, hv.1, vs, hv.2⟩
theorem Rch.snoc {es : List Edge} {a b c : Int} (h : Rch es a b) (k : (⟨b, c⟩ : Edge) ∈ es) : Rch es a c := by
 obtain ⟨vs, hv⟩ := h
 refine ⟨vs ++ [b], ?_⟩
 rw [Way.append]
 refine ⟨hv, ?_⟩
 rw [vT]
 exact ⟨k, trivial⟩

/-! ### A way that meets no task twice -/
theorem nJ : ∀ (n : Nat) (l : List Int), l.Nodup → (∀ x ∈ l, 0 ≤ x ∧ x < n) → l.length ≤ n
 | 0, l, _, h => by
  cases l with
  | nil => simp
  | cons x l => have := h x (by simp); omega
 | n + 1, l, hn, h => by
  have h1 := nJ n (l.erase (n : Int)) (hn.erase _) (fun x hx => by
   have hm := List.mem_of_mem_erase hx
   have hne : x ≠ (n : Int) := fun e => by
    subst e
    exact absurd hx hn.not_mem_erase
   have := h x hm
   omega)
  have h2 : l.length ≤ (l.erase (n : Int)).length + 1 := by
   rw [List.length_erase]
   split <;> omega
  omega
theorem vQ : ∀ {l : List Int}, ¬ l.Nodup → ∃ x l1 l2 l3, l = l1 ++ x :: l2 ++ x :: l3
 | [], h => by simp at h
 | y :: l, h => by
  by_cases hm : y ∈ l
  ·obtain ⟨l2, l3, rfl⟩ := List.append_of_mem hm
   exact ⟨y, [], l2, l3, rfl⟩
  ·have : ¬ l.Nodup := fun hn => h (List.nodup_cons.2 ⟨hm, hn⟩)
   obtain ⟨x, l1, l2, l3, rfl⟩ := vQ this
   exact ⟨x, y :: l1, l2, l3, rfl⟩
theorem Way.mem {es : List Edge} : ∀ {vs : List Int} {a x : Int}, Way es a vs → x ∈ vs → ∃ e ∈ es, e.to_ = x
 | v :: vs, a, x, h, hx => by
  rcases List.mem_cons.1 hx with rfl | hx
  ·exact ⟨_, h.1, rfl⟩
  ·exact Way.mem h.2 hx
theorem Rch.short {es : List Edge} {n : Nat} (hr : ∀ e ∈ es, 0 ≤ e.to_ ∧ e.to_ < n) {a b : Int} (h : Rch es a b) : ∃ vs, Way es a (vs ++ [b]) ∧ (vs ++ [b]).length ≤ n := by
 obtain ⟨vs, hv⟩ := h
 induction hk : vs.length using Nat.strongRecOn generalizing vs with
 | _ k ih =>
  subst hk
  by_cases hn : (vs ++ [b]).Nodup
  ·exact ⟨vs, hv, nJ n _ hn (fun x hx => by obtain ⟨e, he, rfl⟩ := Way.mem hv hx; exact hr e he)⟩
  ·obtain ⟨x, l1, l2, l3, hl⟩ := vQ hn
   have hv2 := hv
   rw [hl, Way.append] at hv2
   have hw := hv2.1
   rw [show l1 ++ x :: l2 = l1 ++ [x] ++ l2 by simp, Way.append] at hw
   have hnew : Way es a (l1 ++ [x] ++ l3) := by
    rw [Way.append]
    refine ⟨hw.1, ?_⟩
    have h3 := hv2.2
    rw [vT]
    have e1 : (a :: (l1 ++ x :: l2)).getLast (List.cons_ne_nil _ _) = (a :: (l1 ++ x :: l2)).getLast (List.cons_ne_nil _ _) := rfl
    exact h3.2
   -- the same end
   have hlast : ∃ ws, l1 ++ [x] ++ l3 = ws ++ [b] ∧ ws.length < vs.length := by
    have hlen := congrArg List.length hl
    simp only [List.length_append, List.length_cons, List.length_nil] at hlen
    by_cases h3 : l3 = []
    ·subst h3
     have e2 : x = b := by
      have := (List.append_inj' hl rfl).2
      simpa using this.symm
     subst e2
     exact ⟨l1, by simp, by omega⟩
    ·obtain ⟨m, y, rfl⟩ : ∃ m y, l3 = m ++ [y] := ⟨l3.dropLast, l3.getLast h3, (List.dropLast_concat_getLast h3).symm⟩
     have e2 : y = b := by
      have hl2 : vs ++ [b] = (l1 ++ x :: l2 ++ x :: m) ++ [y] := by rw [hl]; simp
      have := (List.append_inj' hl2 rfl).2
      simpa using this.symm
     subst e2
     refine ⟨l1 ++ [x] ++ m, by simp, ?_⟩
     simp at hlen ⊢
     omega
   obtain ⟨ws, he, hlt⟩ := hlast
   rw [he] at hnew
   exact ih ws.length hlt ws hnew rfl

/-! ### Sets of tasks as numbers, relaxed edge by edge -/
def kT (m : List Nat) (a : Int) (b : Int) : Bool := (m.getD a.toNat 0).testBit b.toNat
def iF (m : List Nat) (e : Edge) : List Nat := m.set e.from_.toNat (m.getD e.from_.toNat 0 ||| (1 <<< e.to_.toNat ||| m.getD e.to_.toNat 0))
def hG (es : List Edge) (m : List Nat) : List Nat := es.foldl iF m
def dS (es : List Edge) (m : List Nat) : Nat → List Nat
 | 0 => m
 | k + 1 => hG es (dS es m k)
def EdgesIn (n : Nat) (es : List Edge) : Prop := ∀ e ∈ es, (0 ≤ e.from_ ∧ e.from_ < n) ∧ (0 ≤ e.to_ ∧ e.to_ < n)
theorem mJ (m : List Nat) (e : Edge) : (iF m e).length = m.length := by simp [iF]
theorem rT : ∀ (es : List Edge) (m : List Nat), (hG es m).length = m.length
 | [], m => rfl
 | e :: es, m => by show (hG es (iF m e)).length = _; rw [rT es, mJ]
theorem jE (es : List Edge) (m : List Nat) : ∀ k, (dS es m k).length = m.length
 | 0 => rfl
 | k + 1 => by rw [dS, rT, jE es m k]
theorem mT {m : List Nat} {e : Edge} {a b : Int} (ha : 0 ≤ a ∧ a < m.length) (hb : 0 ≤ b) (he : 0 ≤ e.from_ ∧ 0 ≤ e.to_) : kT (iF m e) a b = (kT m a b || (decide (a = e.from_) && (decide (b = e.to_) || kT m e.to_ b))) := by
 unfold kT iF
 by_cases h : a = e.from_
 ·subst h
  have hl : e.from_.toNat < m.length := by omega
  rw [List.getD_eq_getElem?_getD, List.getElem?_set_self hl]
  simp only [Option.getD_some, decide_true, Bool.true_and, Nat.testBit_or]
  congr 1
  congr 1
  rw [Nat.one_shiftLeft, Nat.testBit_two_pow]
  by_cases h2 : b = e.to_
  ·subst h2; simp
  ·have : ¬ e.to_.toNat = b.toNat := by omega
   simp [h2, this]
 ·have hne : ¬ e.from_.toNat = a.toNat := by omega
  rw [List.getD_eq_getElem?_getD, List.getElem?_set_ne hne]
  simp [h, List.getD_eq_getElem?_getD]
theorem tQ {n : Nat} : ∀ {es : List Edge} {m : List Nat} {a b : Int}, EdgesIn n es → m.length = n → (0 ≤ a ∧ a < n) → 0 ≤ b → kT m a b = true → kT (hG es m) a b = true
 | [], m, a, b, _, _, _, _, h => h
 | e :: es, m, a, b, hi, hl, ha, hb, h => by
  refine tQ (es := es) (m := iF m e) (fun x hx => hi x (by simp [hx])) (by rw [mJ, hl]) ha hb ?_
  have := hi e (by simp)
  rw [mT aD hb aD, h]; rfl
theorem pD {n : Nat} : ∀ {es : List Edge} {m : List Nat} {e : Edge} {b : Int}, EdgesIn n es → m.length = n → e ∈ es → 0 ≤ b → (b = e.to_ ∨ kT m e.to_ b = true) → kT (hG es m) e.from_ b = true
 | e0 :: es, m, e, b, hi, hl, he, hb, h => by
  have h0 := hi e0 (by simp)
  have hlen : (iF m e0).length = n := by rw [mJ, hl]
  have hi' : EdgesIn n es := fun x hx => hi x (by simp [hx])
  rcases List.mem_cons.1 he with rfl | he
  ·refine tQ (es := es) hi' hlen h0.1 hb ?_
   rw [mT aD hb aD]
   rcases h with h | h
   ·simp [h]
   ·simp [h]
  ·refine pD (es := es) (m := iF m e0) hi' hlen he hb ?_
   rcases h with h | h
   ·exact .inl h
   ·refine .inr ?_
    have h1 := hi e (by simp [he])
    rw [mT aD hb aD, h]; rfl
theorem sK {n : Nat} {all : List Edge} : ∀ {es : List Edge} {m : List Nat}, EdgesIn n es → m.length = n → (∀ e ∈ es, e ∈ all) → (∀ a b : Int, 0 ≤ a → a < n → 0 ≤ b → kT m a b = true → Rch all a b) → ∀ a b : Int, 0 ≤ a → a < n → 0 ≤ b → kT (hG es m) a b = true → Rch all a b
 | [], m, _, _, _, h => h
 | e :: es, m, hi, hl, hs, h => by
  refine sK (es := es) (m := iF m e) (fun x hx => hi x (by simp [hx])) (by rw [mJ, hl]) (fun x hx => hs x (by simp [hx])) ?_
  intro a b ha ha2 hb hbit
  have h0 := hi e (by simp)
  rw [mT aD hb aD] at hbit
  simp only [Bool.or_eq_true, Bool.and_eq_true, decide_eq_true_eq] at hbit
  rcases hbit with hbit | ⟨rfl, hbit⟩
  ·exact h a b ha ha2 hb hbit
  ·have hem : (⟨e.from_, e.to_⟩ : Edge) ∈ all := hs e (by simp)
   rcases hbit with rfl | hbit
   ·exact .one hem
   ·exact .cons hem (h e.to_ b h0.2.1 h0.2.2 hb hbit)
theorem tS {n : Nat} {es : List Edge} {m : List Nat} (hi : EdgesIn n es) (hl : m.length = n) : ∀ (k : Nat) {a b : Int} {vs : List Int}, Way es a (vs ++ [b]) → (vs ++ [b]).length ≤ k → kT (dS es m k) a b = true
 | 0, a, b, vs, _, h => by simp at h
 | k + 1, a, b, [], hw, h => by
  rw [dS]
  have hb := hi _ hw.1
  exact pD (e := ⟨a, b⟩) hi (by rw [jE, hl]) hw.1 hb.2.1 (.inl rfl)
 | k + 1, a, b, v :: vs, hw, h => by
  rw [dS]
  have h1 := tS hi hl k (vs := vs) hw.2 (by simpa using h)
  have hb : 0 ≤ b := by
   have : b ∈ vs ++ [b] := by simp
   obtain ⟨e, he, rfl⟩ := Way.mem hw.2 this
   exact (hi e he).2.1
  exact pD (e := ⟨a, v⟩) hi (by rw [jE, hl]) hw.1 hb (.inr h1)
theorem waits_iff {n : Nat} {es : List Edge} (hi : EdgesIn n es) {a b : Int} (ha : 0 ≤ a ∧ a < n) (hb : 0 ≤ b) : kT (dS es (List.replicate n 0) n) a b = true ↔ Rch es a b := by
 constructor
 ·have key : ∀ k, ∀ a b : Int, 0 ≤ a → a < n → 0 ≤ b → kT (dS es (List.replicate n 0) k) a b = true → Rch es a b := by
   intro k
   induction k with
   | zero =>
    intro a b _ _ _ h
    simp only [dS, kT, List.getD_eq_getElem?_getD, List.getElem?_replicate] at h
    split at h <;> simp at h
   | succ k ih => exact sK hi (by rw [jE]; simp) (fun e he => he) ih
  exact key n a b ha.1 ha.2 hb
 ·intro h
  obtain ⟨vs, hv, hlen⟩ := h.short (n := n) (fun e he => (hi e he).2)
  exact tS hi (by simp) n hv hlen
structure BInv (es : List Edge) (n : Nat) (t : Int) (q : List Int) (out : List Bool) (h i : Nat) : Prop where
 head : q[0]? = some t
 len : out.length = n
 mark : ∀ x : Int, 0 ≤ x → x < n → (out.getD x.toNat false = true ↔ x ∈ q.tail)
 nodup : q.tail.Nodup
 sound : ∀ x ∈ q.tail, Rch es t x
 range : ∀ x ∈ q.tail, 0 ≤ x ∧ x < n
 done : ∀ (k : Nat) (x : Int), k < h → q[k]? = some x → ∀ e ∈ es, e.from_ = x → e.to_ ∈ q.tail
 part : ∀ x : Int, q[h]? = some x → ∀ e ∈ es.take i, e.from_ = x → e.to_ ∈ q.tail
section
variable {es : List Edge} {n : Nat} {t : Int} {q : List Int} {out : List Bool} {h i : Nat}
theorem BInv.start : BInv es n t [t] (List.replicate n false) 0 0 :=
 ⟨rfl, by simp, fun x _ _ => by
  simp only [List.getD_eq_getElem?_getD, List.getElem?_replicate, List.tail_cons, List.not_mem_nil, iff_false]
  split <;> simp, by simp, by simp, by simp, fun k x hk => absurd hk (Nat.not_lt_zero k), by simp⟩
theorem BInv.len_le (b : BInv es n t q out h i) : q.length ≤ n + 1 := by
 have := nJ n q.tail b.nodup b.range
 rw [List.length_tail] at this
 omega
theorem mem_of_tail {q : List Int} {x : Int} (h : x ∈ q.tail) : x ∈ q := List.mem_of_mem_tail h
theorem BInv.at (b : BInv es n t q out h i) {k : Nat} {x : Int} (hk : q[k]? = some x) : x = t ∨ x ∈ q.tail := by
 cases k with
 | zero => rw [b.head] at hk; exact .inl (Option.some.inj hk).symm
 | succ k => exact .inr (List.mem_of_getElem? (by rw [List.getElem?_tail]; exact hk))
theorem BInv.skip (b : BInv es n t q out h i) (hin : EdgesIn n es) {e : Edge} (hi : es[i]? = some e) {x : Int} (hx : q[h]? = some x) (hne : ¬ (e.from_ = x ∧ out.getD e.to_.toNat false = false)) : BInv es n t q out h (i + 1) := by
 refine ⟨b.head, b.len, b.mark, b.nodup, b.sound, b.range, b.done, ?_⟩
 intro y hy e' he' hf
 rw [hx] at hy
 obtain rfl := Option.some.inj hy
 obtain ⟨hil, rfl⟩ := List.getElem?_eq_some_iff.1 hi
 rw [List.take_succ_eq_append_getElem hil] at he'
 rcases List.mem_append.1 he' with h1 | h1
 ·exact b.part x hx e' h1 hf
 ·simp at h1
  subst h1
  have hr := hin es[i] (List.getElem_mem hil)
  refine (b.mark es[i].to_ hr.2.1 hr.2.2).1 ?_
  cases ho : out.getD es[i].to_.toNat false with
  | true => rfl
  | false => exact absurd ⟨hf, ho⟩ hne
theorem BInv.add (b : BInv es n t q out h i) (hin : EdgesIn n es) {e : Edge} (hi : es[i]? = some e) {x : Int} (hx : q[h]? = some x) (hf : e.from_ = x) (ho : out.getD e.to_.toNat false = false) : BInv es n t (q ++ [e.to_]) (out.set e.to_.toNat true) h (i + 1) := by
 obtain ⟨hil, rfl⟩ := List.getElem?_eq_some_iff.1 hi
 have hem : es[i] ∈ es := List.getElem_mem hil
 have hr := hin es[i] hem
 have hq0 : q ≠ [] := fun e => by have := b.head; rw [e] at this; simp at this
 have htail : (q ++ [es[i].to_]).tail = q.tail ++ [es[i].to_] := by
  cases q with
  | nil => exact absurd rfl hq0
  | cons a q => rfl
 have hnot : es[i].to_ ∉ q.tail := fun hm => by rw [(b.mark _ hr.2.1 hr.2.2).2 hm] at ho; cases ho
 have hsound : Rch es t es[i].to_ := by
  have hxe : (⟨x, es[i].to_⟩ : Edge) ∈ es := by rw [← hf]; exact hem
  rcases b.at hx with h1 | h1
  ·rw [← h1]; exact .one hxe
  ·exact (b.sound x h1).snoc hxe
 refine ⟨?_, by rw [List.length_set]; exact b.len, ?_, ?_, ?_, ?_, ?_, ?_⟩
 ·rw [List.getElem?_append_left (List.length_pos_iff.2 hq0)]; exact b.head
 ·intro y h0 h1
  rw [htail, List.mem_append, List.mem_singleton]
  by_cases hy : y = es[i].to_
  ·subst hy
   rw [List.getD_eq_getElem?_getD, List.getElem?_set_self (by rw [b.len]; omega)]
   simp
  ·have hne : ¬ es[i].to_.toNat = y.toNat := by omega
   rw [List.getD_eq_getElem?_getD, List.getElem?_set_ne hne, ← List.getD_eq_getElem?_getD, b.mark y h0 h1]
   simp [hy]
 ·rw [htail, List.nodup_append]
  exact ⟨b.nodup, by simp, fun a ha c hc e => by simp at hc; subst hc e; exact hnot ha⟩
 ·intro y hy
  rw [htail] at hy
  rcases List.mem_append.1 hy with hy | hy
  ·exact b.sound y hy
  ·simp at hy; subst hy; exact hsound
 ·intro y hy
  rw [htail] at hy
  rcases List.mem_append.1 hy with hy | hy
  ·exact b.range y hy
  ·simp at hy; subst hy; exact hr.2
 ·intro k y hk hy e' he' hf'
  have hkq : k < q.length := by
   have := (List.getElem?_eq_some_iff.1 hx).1; omega
  rw [List.getElem?_append_left hkq] at hy
  rw [htail]
  exact List.mem_append_left _ (b.done k y hk hy e' he' hf')
 ·intro y hy e' he' hf'
  have hhq := (List.getElem?_eq_some_iff.1 hx).1
  rw [List.getElem?_append_left hhq, hx] at hy
  obtain rfl := Option.some.inj hy
  rw [htail]
  rw [List.take_succ_eq_append_getElem hil] at he'
  rcases List.mem_append.1 he' with h1 | h1
  ·exact List.mem_append_left _ (b.part x hx e' h1 hf')
  ·simp at h1; subst h1; simp
theorem BInv.next (b : BInv es n t q out h i) (hi : i = es.length) : BInv es n t q out (h + 1) 0 := by
 subst hi
 refine ⟨b.head, b.len, b.mark, b.nodup, b.sound, b.range, ?_, by simp⟩
 intro k x hk hx e he hf
 by_cases hkh : k = h
 ·subst hkh
  exact b.part x hx e (by rw [List.take_length]; exact he) hf
 ·exact b.done k x aD hx e he hf
theorem BInv.fin (b : BInv es n t q out h i) (hh : h = q.length) {x : Int} (h0 : 0 ≤ x) (h1 : x < n) : out.getD x.toNat false = true ↔ Rch es t x := by
 rw [b.mark x h0 h1]
 constructor
 ·exact b.sound x
 ·rintro ⟨vs, hv⟩
  have key : ∀ (vs : List Int) (a : Int), Way es a (vs ++ [x]) → a ∈ q → x ∈ q.tail := by
   intro vs
   induction vs with
   | nil =>
    intro a hw ha
    obtain ⟨k, hk⟩ := List.mem_iff_getElem?.1 ha
    exact b.done k a (by have := (List.getElem?_eq_some_iff.1 hk).1; omega) hk ⟨a, x⟩ hw.1 rfl
   | cons v vs ih =>
    intro a hw ha
    obtain ⟨k, hk⟩ := List.mem_iff_getElem?.1 ha
    have := b.done k a (by have := (List.getElem?_eq_some_iff.1 hk).1; omega) hk ⟨a, v⟩ hw.1 rfl
    exact ih v hw.2 (mem_of_tail this)
  exact key vs t hv (List.mem_of_getElem? b.head)
end
noncomputable def mP (es : List Edge) (n : Nat) (t : Int) : List Bool := (List.range n).map (fun x : Nat => pB (Rch es t (x : Int)))
theorem BInv.all {es : List Edge} {n : Nat} {t : Int} {q : List Int} {out : List Bool} {h i : Nat} (b : BInv es n t q out h i) (hh : h = q.length) : out = mP es n t := by
 apply List.ext_getElem?
 intro j
 unfold mP
 by_cases hj : j < n
 ·have hl : j < out.length := by rw [b.len]; exact hj
  have hf := b.fin hh (x := (j : Int)) aD aD
  rw [Int.toNat_natCast, List.getD_eq_getElem?_getD, List.getElem?_eq_getElem hl] at hf
  simp only [Option.getD_some] at hf
  rw [List.getElem?_eq_getElem hl, List.getElem?_map, List.getElem?_range hj]
  simp only [Option.map_some]
  congr 1
  rw [Bool.eq_iff_iff, hf, pB_iff]
 ·rw [List.getElem?_eq_none (by rw [b.len]; omega), List.getElem?_eq_none (by simp; omega)]
end Go.Proofs.YtchnllpegfbleaaGreat
namespace Go.Proofs.YtchnllpegfbleaaGreat
set_option linter.unusedSimpArgs false
set_option linter.unusedVariables false
set_option maxHeartbeats 2000000
open Go.RowKit Go.Lib
section
variable {P : Program} {n : Nat} {f : Nat → Value} {W : World} {Q : Exit → Act → World → Prop} {K : Value → World → Prop} {d : Option Tmp} {ty : TypeId} {pos : String} {af : Array Go.Edge} {g : Option (Nat × Bool)} {x y : Operand} {t t' : TypeId}
theorem iR (a : Nat) (h : a < 2 ^ 32) : (BitVec.ofInt 64 (a : Int)).toNat = a := by
 simp [BitVec.toNat_ofInt]
 omega
theorem stp_or {a b : Nat} (hx : ev n f x = I (a : Int)) (hy : ev n f y = I (b : Int)) (ha : a < 2 ^ 32) (hb : b < 2 ^ 32) (k : K (I ((a ||| b : Nat) : Int)) W) : Stp P n ⟨d, .binOp .or t x y t', ty, pos, af, g⟩ f W Q K :=
 Stp.run (v := I ((a ||| b : Nat) : Int)) (by
  have h := Nat.or_lt_two_pow ha hb
  have hw : IntKind.i64.wrap ((BitVec.ofInt 64 (a : Int) ||| BitVec.ofInt 64 (b : Int)).toNat : Int) = ((a ||| b : Nat) : Int) := by
   rw [BitVec.toNat_or, iR a ha, iR b hb]
   exact jR ⟨by omega, by omega⟩
  simp [execOp, hx, hy, go_sem]
  exact hw) k
theorem stp_and {a b : Nat} (hx : ev n f x = I (a : Int)) (hy : ev n f y = I (b : Int)) (ha : a < 2 ^ 32) (hb : b < 2 ^ 32) (k : K (I ((a &&& b : Nat) : Int)) W) : Stp P n ⟨d, .binOp .and t x y t', ty, pos, af, g⟩ f W Q K :=
 Stp.run (v := I ((a &&& b : Nat) : Int)) (by
  have h : a &&& b < 2 ^ 32 := Nat.and_lt_two_pow _ hb
  have hw : IntKind.i64.wrap ((BitVec.ofInt 64 (a : Int) &&& BitVec.ofInt 64 (b : Int)).toNat : Int) = ((a &&& b : Nat) : Int) := by
   rw [BitVec.toNat_and, iR a ha, iR b hb]
   exact jR ⟨by omega, by omega⟩
  simp [execOp, hx, hy, go_sem]
  exact hw) k
end
end Go.Proofs.YtchnllpegfbleaaGreat
namespace Go.Proofs.YtchnllpegfbleaaGreat
set_option linter.unusedSimpArgs false
set_option linter.unusedVariables false
set_option maxHeartbeats 2000000
open Go.RowKit Go.Lib
section
variable {P : Program} {n : Nat} {f : Nat → Value} {W : World} {Q : Exit → Act → World → Prop} {K : Value → World → Prop} {d : Option Tmp} {ty : TypeId} {pos : String} {af : Array Go.Edge} {g : Option (Nat × Bool)} {x y : Operand} {t t' : TypeId}
theorem pow_fin : ∀ s : Fin 60, IntKind.i64.wrap (1 * 2 ^ min s.val 64) = ((1 <<< s.val : Nat) : Int) := by decide +kernel
theorem stp_shl1 {s : Nat} (hx : ev n f x = I 1) (hy : ev n f y = I (s : Int)) (hs : s < 60) (k : K (I ((1 <<< s : Nat) : Int)) W) : Stp P n ⟨d, .binOp .shl t x y t', ty, pos, af, g⟩ f W Q K :=
 Stp.run (v := I ((1 <<< s : Nat) : Int)) (by
  have h := pow_fin ⟨s, hs⟩
  have hn : ¬ ((s : Int) < 0) := by omega
  simp only [execOp, hx, hy, Sem.run_bind, binOp, Op.shift, hn, if_false, Int.toNat_natCast, Sem.run_pure, Result.andThen_ok]
  simp only [show IntKind.i64.bits = 64 from rfl, h]
  rfl) k
theorem stp_shr {a s : Nat} (hx : ev n f x = I (a : Int)) (hy : ev n f y = I (s : Int)) (hs : s < 60) (k : K (I ((a >>> s : Nat) : Int)) W) : Stp P n ⟨d, .binOp .shr t x y t', ty, pos, af, g⟩ f W Q K :=
 Stp.run (v := I ((a >>> s : Nat) : Int)) (by
  have hn : ¬ ((s : Int) < 0) := by omega
  have hm : min s 64 = s := by omega
  have h : Int.fdiv (a : Int) (2 ^ s) = ((a >>> s : Nat) : Int) := by
   rw [Nat.shiftRight_eq_div_pow, Int.fdiv_eq_ediv_of_nonneg _ (by exact Int.le_of_lt (Int.pow_pos aD))]
   push_cast; rfl
  simp only [execOp, hx, hy, Sem.run_bind, binOp, Op.shift, hn, if_false, Int.toNat_natCast, Sem.run_pure, Result.andThen_ok]
  simp only [show IntKind.i64.bits = 64 from rfl, hm, h]
  rfl) k
end
end Go.Proofs.YtchnllpegfbleaaGreat
namespace Go.Proofs.YtchnllpegfbleaaGreat
set_option linter.unusedSimpArgs false
set_option linter.unusedVariables false
set_option maxHeartbeats 2000000
open Go.RowKit Go.Lib
def orI (a b : Int) : Int := ((a.toNat ||| b.toNat : Nat) : Int)
def andI (a b : Int) : Int := ((a.toNat &&& b.toNat : Nat) : Int)
def vC (s : Int) : Int := ((1 <<< s.toNat : Nat) : Int)
def yX (a s : Int) : Int := ((a.toNat >>> s.toNat : Nat) : Int)
section
variable {P : Program} {n : Nat} {f : Nat → Value} {W : World} {Q : Exit → Act → World → Prop} {K : Value → World → Prop} {d : Option Tmp} {ty : TypeId} {pos : String} {af : Array Go.Edge} {g : Option (Nat × Bool)} {x y : Operand} {t t' : TypeId}
theorem qY {x : Operand} {a : Int} (h : ev n f x = I a) (h0 : 0 ≤ a) : ev n f x = I ((a.toNat : Nat) : Int) := by rw [Int.toNat_of_nonneg h0]; exact h
theorem zI {a b : Int} (hx : ev n f x = I a) (hy : ev n f y = I b) (ha : 0 ≤ a ∧ a < 4294967296) (hb : 0 ≤ b ∧ b < 4294967296) (k : K (I (orI a b)) W) : Stp P n ⟨d, .binOp .or t x y t', ty, pos, af, g⟩ f W Q K :=
 stp_or (qY hx ha.1) (qY hy hb.1) aD aD k
theorem stp_andI {a b : Int} (hx : ev n f x = I a) (hy : ev n f y = I b) (ha : 0 ≤ a ∧ a < 4294967296) (hb : 0 ≤ b ∧ b < 4294967296) (k : K (I (andI a b)) W) : Stp P n ⟨d, .binOp .and t x y t', ty, pos, af, g⟩ f W Q K :=
 stp_and (qY hx ha.1) (qY hy hb.1) aD aD k
theorem stp_shlI {s : Int} (hx : ev n f x = I 1) (hy : ev n f y = I s) (hs : 0 ≤ s ∧ s < 60) (k : K (I (vC s)) W) : Stp P n ⟨d, .binOp .shl t x y t', ty, pos, af, g⟩ f W Q K :=
 stp_shl1 hx (qY hy hs.1) aD k
theorem stp_shrI {a s : Int} (hx : ev n f x = I a) (hy : ev n f y = I s) (ha : 0 ≤ a) (hs : 0 ≤ s ∧ s < 60) (k : K (I (yX a s)) W) : Stp P n ⟨d, .binOp .shr t x y t', ty, pos, af, g⟩ f W Q K :=
 stp_shr (qY hx ha) (qY hy hs.1) aD k
end
theorem xA {a b : Int} (ha : 0 ≤ a ∧ a < 4294967296) (hb : 0 ≤ b ∧ b < 4294967296) : 0 ≤ orI a b ∧ orI a b < 4294967296 := by
 have h := Nat.or_lt_two_pow (n := 32) (x := a.toNat) (y := b.toNat) aD aD
 unfold orI
 generalize a.toNat ||| b.toNat = m at h ⊢
 omega
theorem tG {s : Int} (hs : 0 ≤ s ∧ s < 32) : 0 ≤ vC s ∧ vC s < 4294967296 := by
 have h : 1 <<< s.toNat < 2 ^ 32 := by
  rw [Nat.one_shiftLeft]
  exact Nat.pow_lt_pow_right aD aD
 unfold vC
 generalize 1 <<< s.toNat = m at h ⊢
 omega
theorem shrI_rng {a s : Int} (ha : 0 ≤ a ∧ a < 4294967296) : 0 ≤ yX a s ∧ yX a s < 4294967296 := by
 have h := Nat.shiftRight_le a.toNat s.toNat
 unfold yX
 generalize a.toNat >>> s.toNat = m at h ⊢
 omega
theorem andI_one (a s : Int) : andI (yX a s) 1 = if a.toNat.testBit s.toNat then 1 else 0 := by
 unfold andI yX
 simp only [Int.toNat_natCast, Int.toNat_one]
 rw [Nat.testBit, Nat.and_comm 1, ]
 have h := Nat.and_one_is_mod (a.toNat >>> s.toNat)
 rw [h]
 have : a.toNat >>> s.toNat % 2 = 0 ∨ a.toNat >>> s.toNat % 2 = 1 := by omega
 rcases this with h | h <;> simp [h]
/-! ### Lists of such numbers -/
def eL (ms : List Nat) : List Int := ms.map (fun m : Nat => (m : Int))
theorem wK (ms : List Nat) : (eL ms).length = ms.length := by simp [eL]
theorem jK {ms : List Nat} (hB : ∀ m ∈ ms, m < 4294967296) (i : Nat) (h : i < (eL ms).length) : 0 ≤ (eL ms)[i] ∧ (eL ms)[i] < 4294967296 := by
 simp only [eL, List.getElem_map]
 have := hB (ms[i]'(by simpa [eL] using h)) (List.getElem_mem _)
 omega
theorem uN {ms : List Nat} {i : Nat} (h : i < (eL ms).length) : (eL ms)[i].toNat = ms.getD i 0 := by
 have h' : i < ms.length := by simpa [eL] using h
 simp [eL, List.getD, h']
theorem castL_set (ms : List Nat) (i : Nat) (m : Nat) : (eL ms).set i (m : Int) = eL (ms.set i m) := by
 simp [eL, List.map_set]
theorem castL_rep (n : Nat) : List.replicate n (0 : Int) = eL (List.replicate n 0) := by simp [eL]
end Go.Proofs.YtchnllpegfbleaaGreat
namespace Go.Proofs.YtchnllpegfbleaaGreat
set_option linter.unusedSimpArgs false
set_option linter.unusedVariables false
set_option maxRecDepth 100000
set_option maxHeartbeats 2000000
open Go.RowKit
def cU (p : Plan) : Prop := ¬ (1 ≤ p.tasks ∧ p.tasks ≤ 12) ∨ 30 < p.edges.length ∨ ¬ (0 ≤ p.prio ∧ p.prio ≤ 9) ∨ ¬ (1 ≤ p.most ∧ p.most ≤ 5) ∨ ¬ (1 ≤ p.wait ∧ p.wait ≤ 20)
def kE (p : Plan) : Prop := ∃ t : Nat, t < p.tasks.toNat ∧ Rch p.edges (t : Int) (t : Int)
open Classical in
noncomputable def cX (p : Plan) : Int :=
 if cU p then 1 else if ¬ EdgesIn p.tasks.toNat p.edges then 2 else if ¬ p.edges.Nodup then 3 else if kE p then 4 else 0
theorem pf1 {p : Plan} (h : cU p) : cX p = 1 := by unfold cX; rw [if_pos h]
theorem pf2 {p : Plan} (h : ¬ cU p) (h2 : ¬ EdgesIn p.tasks.toNat p.edges) : cX p = 2 := by unfold cX; rw [if_neg h, if_pos h2]
theorem pf3 {p : Plan} (h : ¬ cU p) (h2 : EdgesIn p.tasks.toNat p.edges) (h3 : ¬ p.edges.Nodup) : cX p = 3 := by unfold cX; rw [if_neg h, if_neg (not_not_intro h2), if_pos h3]
theorem pf4 {p : Plan} (h : ¬ cU p) (h2 : EdgesIn p.tasks.toNat p.edges) (h3 : p.edges.Nodup) (h4 : kE p) : cX p = 4 := by unfold cX; rw [if_neg h, if_neg (not_not_intro h2), if_neg (not_not_intro h3), if_pos h4]
theorem pf0 {p : Plan} (h : ¬ cU p) (h2 : EdgesIn p.tasks.toNat p.edges) (h3 : p.edges.Nodup) (h4 : ¬ kE p) : cX p = 0 := by unfold cX; rw [if_neg h, if_neg (not_not_intro h2), if_neg (not_not_intro h3), if_neg h4]
theorem lU {p : Plan} (h : cX p = 0) : ¬ cU p ∧ EdgesIn p.tasks.toNat p.edges ∧ p.edges.Nodup ∧ ¬ kE p := by
 by_cases h1 : cU p
 ·rw [pf1 h1] at h; omega
 by_cases h2 : EdgesIn p.tasks.toNat p.edges
 ·by_cases h3 : p.edges.Nodup
  ·by_cases h4 : kE p
   ·rw [pf4 h1 h2 h3 h4] at h; omega
   ·exact ⟨h1, h2, h3, h4⟩
  ·rw [pf3 h1 h2 h3] at h; omega
 ·rw [pf2 h1 h2] at h; omega
theorem EdgesIn.nil {n : Nat} : EdgesIn n [] := fun e h => by cases h
theorem EdgesIn.step {n : Nat} {es : List Edge} {k : Nat} (h : EdgesIn n (es.take k)) (hk : k < es.length) (h1 : (0 ≤ es[k].from_ ∧ es[k].from_ < n) ∧ (0 ≤ es[k].to_ ∧ es[k].to_ < n)) : EdgesIn n (es.take (k + 1)) := by
 intro e he
 rw [List.take_succ_eq_append_getElem hk] at he
 rcases List.mem_append.1 he with he | he
 ·exact h e he
 ·simp at he; subst he; exact h1
theorem EdgesIn.at {n : Nat} {es : List Edge} (h : EdgesIn n es) {k : Nat} (hk : k < es.length) : (0 ≤ es[k].from_ ∧ es[k].from_ < n) ∧ (0 ≤ es[k].to_ ∧ es[k].to_ < n) := h _ (List.getElem_mem hk)
theorem tY {α : Type} {xs : List α} {k : Nat} (h : (xs.take k).Nodup) (hk : k < xs.length) (hn : xs[k] ∉ xs.take k) : (xs.take (k + 1)).Nodup := by
 rw [List.take_succ_eq_append_getElem hk, List.nodup_append]
 exact ⟨h, by simp, fun a ha b hb => by simp at hb; subst hb; exact fun e => hn (e ▸ ha)⟩
theorem qK {α : Type} {xs : List α} {k : Nat} (hk : k < xs.length) (hm : xs[k] ∈ xs.take k) : ¬ xs.Nodup := by
 intro h
 have h2 : (xs.take (k + 1)).Nodup := h.sublist (List.take_sublist _ _)
 rw [List.take_succ_eq_append_getElem hk, List.nodup_append] at h2
 exact h2.2.2 _ hm _ (by simp) rfl
theorem not_mem_take_step {α : Type} {xs : List α} {y : α} {k : Nat} (hk : k < xs.length) (h : y ∉ xs.take k) (hn : ¬ y = xs[k]) : y ∉ xs.take (k + 1) := by
 rw [List.take_succ_eq_append_getElem hk, List.mem_append]
 rintro (h1 | h1)
 ·exact h h1
 ·simp at h1; exact hn h1
theorem sN {α : Type} {xs : List α} {i k : Nat} (hi : i < xs.length) (h : i < k) : xs[i] ∈ xs.take k := by
 rw [List.mem_take_iff_getElem]
 exact ⟨i, by omega, rfl⟩
/-! ### The sets, as numbers -/
theorem relax_snoc (es : List Edge) (m : List Nat) (k : Nat) (hk : k < es.length) : hG (es.take (k + 1)) m = iF (hG (es.take k) m) es[k] := by
 unfold hG
 rw [List.take_succ_eq_append_getElem hk, List.foldl_append]; rfl
theorem relax1_bd {m : List Nat} {e : Edge} (h : ∀ x ∈ m, x < 4294967296) (he : 0 ≤ e.to_ ∧ e.to_ < 32) : ∀ x ∈ iF m e, x < 4294967296 := by
 intro x hx
 unfold iF at hx
 rcases List.mem_or_eq_of_mem_set hx with hx | rfl
 ·exact h x hx
 ·have hd : ∀ i, m.getD i 0 < 2 ^ 32 := by
   intro i
   rw [List.getD_eq_getElem?_getD]
   cases hi : m[i]? with
   | none => simp
   | some y => simpa using h y (List.mem_of_getElem? hi)
  have h1 : 1 <<< e.to_.toNat < 2 ^ 32 := by
   rw [Nat.one_shiftLeft]
   exact Nat.pow_lt_pow_right aD aD
  exact Nat.or_lt_two_pow (hd _) (Nat.or_lt_two_pow h1 (hd _))
theorem tR {n : Nat} (hn : n ≤ 32) : ∀ {es : List Edge} {m : List Nat}, EdgesIn n es → (∀ x ∈ m, x < 4294967296) → ∀ x ∈ hG es m, x < 4294967296
 | [], m, _, h => h
 | e :: es, m, hi, h => by
  refine tR hn (es := es) (m := iF m e) (fun x hx => hi x (by simp [hx])) (relax1_bd h ?_)
  have := hi e (by simp)
  omega
theorem vP {n : Nat} (hn : n ≤ 32) {es : List Edge} (hi : EdgesIn n es) (k : Nat) : ∀ x ∈ dS es (List.replicate n 0) k, x < 4294967296 := by
 induction k with
 | zero => intro x hx; simp [dS, List.mem_replicate] at hx; omega
 | succ k ih => exact tR hn hi ih
theorem castL_relax1 {m : List Nat} {e : Edge} (hf : 0 ≤ e.from_) (h1 : e.from_.toNat < (eL m).length) (h2 : e.to_.toNat < (eL m).length) :
  (eL m).set e.from_.toNat (orI ((eL m)[e.from_.toNat]'h1) (orI (vC e.to_) ((eL m)[e.to_.toNat]'h2))) = eL (iF m e) := by
 unfold iF
 rw [← castL_set]
 congr 1
 unfold orI vC
 rw [uN h1]
 simp only [Int.toNat_natCast]
 rw [uN h2]
theorem vD {n : Nat} {es : List Edge} (hi : EdgesIn n es) {t : Nat} (ht : t < n) (h : t < (eL (dS es (List.replicate n 0) n)).length) : andI (yX ((eL (dS es (List.replicate n 0) n))[t]'h) (t : Int)) 1 = 1 ↔ Rch es (t : Int) (t : Int) := by
 rw [andI_one, uN h]
 have hw := waits_iff hi (a := (t : Int)) (b := (t : Int)) aD aD
 unfold kT at hw
 rw [← hw, Int.toNat_natCast]
 split <;> simp_all
def cO (l : List Int) : List Int := l.mergeSort (fun x y => decide (x ≤ y))
theorem kO (l : List Int) : (cO l).Perm l := List.mergeSort_perm l _
theorem sortI_le (l : List Int) : (cO l).Pairwise (fun x y => x ≤ y) := by
 have h := List.pairwise_mergeSort (le := fun x y : Int => decide (x ≤ y)) (fun a b c h1 h2 => by simp only [decide_eq_true_eq] at *; omega) (fun a b => by simp only [Bool.or_eq_true, decide_eq_true_eq]; omega) l
 exact h.imp (fun h => by simpa using h)
theorem nX (l : List Int) : (cO l).length = l.length := (kO l).length_eq
theorem sortI_eq {l l' : List Int} (hp : l.Perm l') (hs : l.Pairwise (fun x y => x ≤ y)) : l = cO l' :=
 List.Perm.eq_of_pairwise (le := fun x y => x ≤ y) (fun a b _ _ h1 h2 => by omega) hs (sortI_le l') (hp.trans (kO l').symm)
def fG (l : List Int) (n : Nat) : List Int := (List.range n).flatMap (fun t : Nat => l.filter (fun x => decide (x = (t : Int))))
theorem filter_or {α : Type} (p q r : α → Bool) (l : List α) (h : ∀ x, r x = (p x || q x)) (hd : ∀ x, p x = true → q x = true → False) : (l.filter p ++ l.filter q).Perm (l.filter r) := by
 induction l with
 | nil => simp
 | cons x l ih =>
  cases hp : p x with
  | true =>
   have hq : q x = false := by cases hq : q x with | true => exact (hd x hp hq).elim | false => rfl
   have hr : r x = true := by rw [h, hp]; rfl
   simp only [List.filter_cons, hp, hq, hr, if_true, Bool.false_eq_true, if_false, List.cons_append]
   exact List.Perm.cons _ ih
  | false =>
   cases hq : q x with
   | true =>
    have hr : r x = true := by rw [h, hp, hq]; rfl
    simp only [List.filter_cons, hp, hq, hr, if_true, Bool.false_eq_true, if_false]
    exact (List.perm_middle).trans (List.Perm.cons _ ih)
   | false =>
    have hr : r x = false := by rw [h, hp, hq]; rfl
    simp only [List.filter_cons, hp, hq, hr, Bool.false_eq_true, if_false]
    exact ih
theorem nP (l : List Int) : ∀ n : Nat, (fG l n).Perm (l.filter (fun x => decide (0 ≤ x) && decide (x < (n : Int))))
 | 0 => by
  have : l.filter (fun x => decide (0 ≤ x) && decide (x < ((0 : Nat) : Int))) = [] := by
   rw [List.filter_eq_nil_iff]
   intro x _; simp
  rw [this]
  exact List.Perm.refl _
 | n + 1 => by
  have ih := nP l n
  have hb : fG l (n + 1) = fG l n ++ l.filter (fun x => decide (x = (n : Int))) := by simp [fG, List.range_succ, List.flatMap_append]
  rw [hb]
  refine (ih.append_right _).trans (filter_or _ _ _ l (fun x => ?_) (fun x h1 h2 => ?_))
  ·rw [Bool.eq_iff_iff]; simp; omega
  ·simp at h1 h2; omega
theorem wL (l : List Int) : ∀ n : Nat, (fG l n).Pairwise (fun x y => x ≤ y) ∧ ∀ x ∈ fG l n, x < (n : Int)
 | 0 => by simp [fG]
 | n + 1 => by
  have ih := wL l n
  have hb : fG l (n + 1) = fG l n ++ l.filter (fun x => decide (x = (n : Int))) := by simp [fG, List.range_succ, List.flatMap_append]
  rw [hb]
  have hf : ∀ x ∈ l.filter (fun x => decide (x = (n : Int))), x = (n : Int) := fun x hx => by simpa using (List.mem_filter.1 hx).2
  refine ⟨?_, ?_⟩
  ·rw [List.pairwise_append]
   refine ⟨ih.1, ?_, ?_⟩
   ·rw [List.pairwise_iff_forall_sublist]
    intro a b hs
    have h1 := hf a (hs.subset (by simp))
    have h2 := hf b (hs.subset (by simp))
    omega
   ·intro a ha b hb
    have h1 := ih.2 a ha
    have h2 := hf b hb
    omega
  ·intro x hx
   rcases List.mem_append.1 hx with h | h
   ·have := ih.2 x h; omega
   ·have := hf x h; omega
theorem wM {l : List Int} {n : Nat} (h : ∀ x ∈ l, 0 ≤ x ∧ x < (n : Int)) : fG l n = cO l := by
 refine sortI_eq ?_ (wL l n).1
 have hp := nP l n
 rwa [List.filter_eq_self.2 (fun x hx => by have := h x hx; simp; omega)] at hp
def cW (es : List Edge) (task : Int) : List Int := (es.filter (fun e => decide (e.to_ = task))).map (·.from_)
def tos (es : List Edge) (task : Int) : List Int := (es.filter (fun e => decide (e.from_ = task))).map (·.to_)
noncomputable def cH (p : Plan) (task : Int) : List Int := if cX p = 0 then cO (cW p.edges task) else []
noncomputable def cS (p : Plan) (task : Int) : List Int := if cX p = 0 then cO (tos p.edges task) else []
theorem rV (es : List Edge) (task : Int) : (cW es task).length ≤ es.length := by
 unfold cW; rw [List.length_map]; exact List.length_filter_le _ _
theorem wU (es : List Edge) (task : Int) : (tos es task).length ≤ es.length := by
 unfold tos; rw [List.length_map]; exact List.length_filter_le _ _
theorem mO {es : List Edge} {task : Int} {k : Nat} (hk : k < es.length) (h : es[k].to_ = task) : cW (es.take (k + 1)) task = cW (es.take k) task ++ [es[k].from_] := by
 rw [List.take_succ_eq_append_getElem hk, cW, List.filter_append, List.map_append]; simp [cW, h]
theorem qT {es : List Edge} {task : Int} {k : Nat} (hk : k < es.length) (h : ¬ es[k].to_ = task) : cW (es.take (k + 1)) task = cW (es.take k) task := by
 rw [List.take_succ_eq_append_getElem hk, cW, List.filter_append, List.map_append]; simp [cW, h]
theorem oX {es : List Edge} {task : Int} {k : Nat} (hk : k < es.length) (h : es[k].from_ = task) : tos (es.take (k + 1)) task = tos (es.take k) task ++ [es[k].to_] := by
 rw [List.take_succ_eq_append_getElem hk, tos, List.filter_append, List.map_append]; simp [tos, h]
theorem sZ {es : List Edge} {task : Int} {k : Nat} (hk : k < es.length) (h : ¬ es[k].from_ = task) : tos (es.take (k + 1)) task = tos (es.take k) task := by
 rw [List.take_succ_eq_append_getElem hk, tos, List.filter_append, List.map_append]; simp [tos, h]
theorem wA {n : Nat} {es : List Edge} (hi : EdgesIn n es) (task : Int) : ∀ x ∈ cW es task, 0 ≤ x ∧ x < (n : Int) := by
 intro x hx
 simp only [cW, List.mem_map, List.mem_filter] at hx
 obtain ⟨e, ⟨he, _⟩, rfl⟩ := hx
 exact (hi e he).1
theorem zG {n : Nat} {es : List Edge} (hi : EdgesIn n es) (task : Int) : ∀ x ∈ tos es task, 0 ≤ x ∧ x < (n : Int) := by
 intro x hx
 simp only [tos, List.mem_map, List.mem_filter] at hx
 obtain ⟨e, ⟨he, _⟩, rfl⟩ := hx
 exact (hi e he).2
def lX (es : List Edge) (task : Int) (t : Int) : List Int := (cW es task).filter (fun x => decide (x = t))
def lW (es : List Edge) (task : Int) (t : Int) : List Int := (tos es task).filter (fun x => decide (x = t))
theorem lJ (l : List Int) (n : Nat) : fG l (n + 1) = fG l n ++ l.filter (fun x => decide (x = (n : Int))) := by simp [fG, List.range_succ, List.flatMap_append]
theorem oU (l : List Int) (n : Nat) : (fG l n).length ≤ l.length := by
 rw [(nP l n).length_eq]; exact List.length_filter_le _ _
theorem onesF_step_t {es : List Edge} {task t : Int} {k : Nat} (hk : k < es.length) (h : es[k].from_ = t ∧ es[k].to_ = task) : lX (es.take (k + 1)) task t = lX (es.take k) task t ++ [t] := by
 unfold lX; rw [mO hk h.2]; simp [List.filter_append, h.1]
theorem qI {es : List Edge} {task t : Int} {k : Nat} (hk : k < es.length) (h : ¬ (es[k].from_ = t ∧ es[k].to_ = task)) : lX (es.take (k + 1)) task t = lX (es.take k) task t := by
 unfold lX
 by_cases h2 : es[k].to_ = task
 ·rw [mO hk h2]
  have : ¬ es[k].from_ = t := fun e => h ⟨e, h2⟩
  simp [List.filter_append, this]
 ·rw [qT hk h2]
theorem onesT_step_t {es : List Edge} {task t : Int} {k : Nat} (hk : k < es.length) (h : es[k].from_ = task ∧ es[k].to_ = t) : lW (es.take (k + 1)) task t = lW (es.take k) task t ++ [t] := by
 unfold lW; rw [oX hk h.1]; simp [List.filter_append, h.2]
theorem qH {es : List Edge} {task t : Int} {k : Nat} (hk : k < es.length) (h : ¬ (es[k].from_ = task ∧ es[k].to_ = t)) : lW (es.take (k + 1)) task t = lW (es.take k) task t := by
 unfold lW
 by_cases h2 : es[k].from_ = task
 ·rw [oX hk h2]
  have : ¬ es[k].to_ = t := fun e => h ⟨h2, e⟩
  simp [List.filter_append, this]
 ·rw [sZ hk h2]
theorem onesF_len (es : List Edge) (task t : Int) (k n : Nat) : (fG (cW es task) n ++ lX (es.take k) task (n : Int)).length ≤ es.length := by
 have h1 := oU (cW es task) (n + 1)
 rw [lJ, List.length_append] at h1
 have h2 : (lX (es.take k) task (n : Int)).length ≤ (lX es task (n : Int)).length := by
  unfold lX cW
  exact List.Sublist.length_le (List.Sublist.filter _ (List.Sublist.map _ (List.Sublist.filter _ (List.take_sublist k es))))
 have h3 := rV es task
 rw [List.length_append]
 unfold lX at h2 ⊢
 omega
theorem onesT_len (es : List Edge) (task t : Int) (k n : Nat) : (fG (tos es task) n ++ lW (es.take k) task (n : Int)).length ≤ es.length := by
 have h1 := oU (tos es task) (n + 1)
 rw [lJ, List.length_append] at h1
 have h2 : (lW (es.take k) task (n : Int)).length ≤ (lW es task (n : Int)).length := by
  unfold lW tos
  exact List.Sublist.length_le (List.Sublist.filter _ (List.Sublist.map _ (List.Sublist.filter _ (List.take_sublist k es))))
 have h3 := wU es task
 rw [List.length_append]
 unfold lW at h2 ⊢
 omega
theorem uT (p : Plan) (task : Int) : ∀ x ∈ cH p task, 0 ≤ x ∧ x < p.tasks := by
 intro x hx
 unfold cH at hx
 split at hx
 ·rename_i h
  obtain ⟨h1, h2, _⟩ := lU h
  have := wA h2 task x ((kO _).mem_iff.1 hx)
  unfold cU at h1
  omega
 ·cases hx
theorem uQ (p : Plan) (task : Int) : ∀ x ∈ cS p task, 0 ≤ x ∧ x < p.tasks := by
 intro x hx
 unfold cS at hx
 split at hx
 ·rename_i h
  obtain ⟨h1, h2, _⟩ := lU h
  have := zG h2 task x ((kO _).mem_iff.1 hx)
  unfold cU at h1
  omega
 ·cases hx
theorem kV (p : Plan) (task : Int) : (cH p task).length ≤ 30 := by
 unfold cH
 split
 ·rename_i h
  obtain ⟨h1, _⟩ := lU h
  rw [nX]
  have := rV p.edges task
  unfold cU at h1
  omega
 ·simp
theorem uR (p : Plan) (task : Int) : (cS p task).length ≤ 30 := by
 unfold cS
 split
 ·rename_i h
  obtain ⟨h1, _⟩ := lU h
  rw [nX]
  have := wU p.edges task
  unfold cU at h1
  omega
 ·simp
end Go.Proofs.YtchnllpegfbleaaGreat
