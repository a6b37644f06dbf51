/-
  A region that draws its order: whatever holds at its beginning, and is kept by each operation when those are done for which it waits, holds at its end.
  Regions and parts of regions whose operations only read or call, walked at once. Theory alone.
  The laws' copies: what they return is the call's own.
  The laws' measures.
  The laws' comparisons.
  States of a call as data: what slots hold, what is owned, what is borrowed; and traces of what is to be equal. Theory alone.
  Contracts as data; what is told of a walk, as data. Theory alone.
  One operation, reckoned: those that only read. Theory alone.
  A store into an element of an owned slice; a made slice, all zeros.
  Functions without parameters; slices that are nil, owned out of nothing.
  Parts of slices, whose values are known ahead; three results, the first in a cell.
-/
import Derived.Test.YtanpcpoogkdlaaaGreatQ01
universe u
namespace Go.Proofs.YtanpcpoogkdlaaaGreat
set_option linter.unusedSimpArgs false
set_option linter.unusedVariables false
set_option maxRecDepth 100000
set_option maxHeartbeats 2000000
open Go.RowKit Go.Proofs.Tryz List
variable (w : World) {cs ds : List Value} {fp gp : List Nat}
def onR (l : List Oper) (f : Nat → Value) (o : Oper) : Bool :=
 match o.guard with
 | none => true
 | some (j, w) => match bN l j with
  | some d => yl (f d) == some w
  | none => false
def eK (D : Nat → Bool) (i : Nat) : Nat → Bool := fun j => cond (Nat.beq j i) true (D j)
section
variable {P : Program} {n : Nat} {Q : Exit → Act → World → Prop}
structure KeepI (P : Program) (n : Nat) (Q : Exit → Act → World → Prop) (l : List Oper) (I : (Nat → Bool) → (Nat → Value) → World → Prop) : Prop where
 step : ∀ i o D f W, l[i]? = some o → D i = false → (∀ j, dep l i j = true → D j = true) → (∀ j k, D j = true → dep l j k = true → D k = true) → I D f W →
  cond (onR l f o) (Stp P n o f W Q (fun v W' => I (eK D i) (dK f o.dst v) W')) (I (eK D i) (dK f o.dst undef) W)
structure FlagI (l : List Oper) (m : Nat) (I : (Nat → Bool) → (Nat → Value) → World → Prop) (L : Array Bool) (f : Nat → Value) (W : World) : Prop where
 size : L.size = l.length + m
 tail : ∀ i, l.length ≤ i → i < L.size → L[i]? = some false
 down : ∀ i j, L[i]? = some true → dep l i j = true → L[j]? = some true
 inv : I (fun i => L.getD i false) f W
theorem any_mainI {I : (Nat → Bool) → (Nat → Value) → World → Prop} {l tl : List Oper} (ho : OrdOk n l) (hs : KeepI P n Q l I)
  (ht : ∀ i o, l.length ≤ i → (l ++ tl)[i]? = some o → (∃ j, l.length ≤ j ∧ dep (l ++ tl) i j = true) ∨ ∀ j, j < l.length → dep (l ++ tl) i j = true ∨ ∃ m, j < m ∧ m < l.length ∧ dep l m j = true)
  (fin : ∀ fuel L f W, tl.length ≤ fuel → (∀ i, i < l.length → L[i]? = some true) → FlagI l tl.length I L f W → wpAny P .any (l ++ tl).toArray Q fuel L (act n f) W) :
  ∀ fuel L f W, FlagI l tl.length I L f W → (L.toList.countP (fun b => !b)) ≤ fuel → wpAny P .any (l ++ tl).toArray Q fuel L (act n f) W := by
 intro fuel
 induction fuel with
 | zero =>
  intro L f W hI hc
  have hall : ∀ i, i < L.size → L[i]? = some true := by
   intro i hi
   have h0 : L.toList.countP (fun b => !b) = 0 := by omega
   rw [countP_eq_zero] at h0
   have := h0 L[i] (by simp)
   rw [Array.getElem?_eq_getElem hi]
   simpa using this
  have htl : tl.length = 0 := by
   by_cases h : tl.length = 0
   ·exact h
   have h1 := hI.tail l.length (Nat.le_refl _) (by rw [hI.size]; omega)
   have h2 := hall l.length (by rw [hI.size]; omega)
   rw [h1] at h2; cases h2
  exact fin 0 L f W aC (fun i hi => hall i (by rw [hI.size]; omega)) hI
 | succ fuel ih =>
  intro L f W hI hc
  by_cases hall : ∀ i, i < l.length → L[i]? = some true
  ·refine fin (fuel + 1) L f W ?_ hall hI
   have : tl.length ≤ L.toList.countP (fun b => !b) := by
    have e : L.toList = L.toList.take l.length ++ L.toList.drop l.length := (take_append_drop _ _).symm
    rw [e, countP_append]
    have : (L.toList.drop l.length).countP (fun b => !b) = (L.toList.drop l.length).length := by
     rw [countP_eq_length]
     intro b hb
     obtain ⟨j, hj⟩ := mem_iff_getElem?.1 hb
     rw [getElem?_drop, Array.getElem?_toList] at hj
     have hlt : l.length + j < L.size := (Array.getElem?_eq_some_iff.1 hj).1
     rw [hI.tail _ aC hlt] at hj
     cases hj; rfl
    rw [this, length_drop]
    have h3 := hI.size
    have h4 : L.toList.length = L.size := Array.length_toList
    omega
   omega
  have hex : ∃ i, i < l.length ∧ L[i]? = some false := by
   apply Classical.byContradiction
   intro hn
   apply hall
   intro i hi
   cases h : L[i]? with
   | none => rw [Array.getElem?_eq_none_iff, hI.size] at h; omega
   | some b =>
    cases b
    ·exact absurd ⟨i, hi, h⟩ hn
    rfl
  obtain ⟨i0, ⟨hi0, hf0⟩, hmin⟩ := aH6 hex
  have hlen : (l ++ tl).length = l.length + tl.length := length_append
  have hready : i0 ∈ Region.ready .any (l ++ tl).toArray L := by
   unfold Region.ready
   rw [mem_filter]
   obtain ⟨o, hoo⟩ : ∃ o, l[i0]? = some o := ⟨_, getElem?_eq_getElem hi0⟩
   have hoo' : (l ++ tl)[i0]? = some o := by rw [getElem?_append_left hi0]; exact hoo
   refine ⟨by rw [mem_range, size_toArray, hlen]; omega, ?_⟩
   rw [Array.getD_eq_getD_getElem?, hf0]
   simp only [Option.getD_some, Bool.not_false, Bool.true_and, getElem?_toArray, hoo', Option.map_some]
   rw [Array.all_eq_true_iff_forall_mem]
   intro e he
   by_cases hb : Region.binds .any e = true
   ·have hd := dep_of hoo he hb
    have hj := ho.lt i0 e.on hi0 hd
    have : L[e.on]? = some true := by
     cases h : L[e.on]? with
     | none => rw [Array.getElem?_eq_none_iff, hI.size] at h; omega
     | some b =>
      cases b
      ·have := hmin e.on ⟨by omega, h⟩; omega
      rfl
    rw [getD_t.2 this]; simp
   simp only [Bool.not_eq_true] at hb
   rw [hb]; rfl
  refine ⟨fun h => (by rw [h] at hready; cases hready), ?_⟩
  intro i hi
  unfold Region.ready at hi
  rw [mem_filter, mem_range, size_toArray, hlen] at hi
  obtain ⟨hilt, hi⟩ := hi
  obtain ⟨o, hoo⟩ : ∃ o, (l ++ tl)[i]? = some o := ⟨_, getElem?_eq_getElem (by rw [hlen]; exact hilt)⟩
  simp only [getElem?_toArray, hoo, Option.map_some, Option.getD_some, Bool.and_eq_true, Bool.not_eq_true'] at hi
  obtain ⟨hun, hdep⟩ := hi
  have hun' : L[i]? = some false := by
   rw [Array.getD_eq_getD_getElem?] at hun
   cases h : L[i]? with
   | none => rw [Array.getElem?_eq_none_iff, hI.size] at h; omega
   | some b => rw [h] at hun; simp at hun; rw [hun]
  rw [Array.all_eq_true_iff_forall_mem] at hdep
  have hdep' : ∀ e ∈ o.after, Region.binds .any e = true → L[e.on]? = some true := by
   intro e he hb
   have := hdep e he
   rw [hb] at this
   exact getD_t.1 (by simpa using this)
  have hiN : i < l.length := by
   by_cases h : i < l.length
   ·exact h
   exfalso
   rcases ht i o aC hoo with ⟨j, hj, hd⟩ | hcov
   ·obtain ⟨e, he, heq, hb⟩ := yW hoo hd
    have h1 := hdep' e he hb
    rw [heq] at h1
    rw [hI.tail j hj (Array.getElem?_eq_some_iff.1 h1).1] at h1
    cases h1
   have key : ∀ m j, l.length - j = m → j < l.length → L[j]? = some true := by
    intro m
    induction m using Nat.strongRecOn with
    | _ m ihm =>
     intro j hm hj
     rcases hcov j hj with hd | ⟨m', h1, h2, h3⟩
     ·obtain ⟨e, he, heq, hb⟩ := yW hoo hd
      rw [← heq]; exact hdep' e he hb
     exact hI.down m' j (ihm (l.length - m') aC m' rfl h2) h3
   have := key _ i0 rfl hi0
   rw [hf0] at this
   cases this
  have hol : l[i]? = some o := by rw [getElem?_append_left hiN] at hoo; exact hoo
  have hdl : ∀ j, dep l i j = true → L[j]? = some true := by
   intro j hj
   obtain ⟨e, he, heq, hb⟩ := yW hol hj
   rw [← heq]; exact hdep' e he hb
  have hsz : i < L.size := (Array.getElem?_eq_some_iff.1 hun').1
  have hother : ∀ j, j ≠ i → (L.setIfInBounds i true)[j]? = L[j]? := fun j hj => by rw [Array.getElem?_setIfInBounds, if_neg (fun e => hj e.symm)]
  have hself : (L.setIfInBounds i true)[i]? = some true := by rw [Array.getElem?_setIfInBounds]; simp [hsz]
  have hDe : (fun j => (L.setIfInBounds i true).getD j false) = eK (fun j => L.getD j false) i := by
   funext j
   unfold eK
   cases hb : Nat.beq j i with
   | true => rw [Nat.eq_of_beq_eq_true hb]; exact getD_t.2 hself
   | false => simp only [cond_false]; rw [Array.getD_eq_getD_getElem?, Array.getD_eq_getD_getElem?, hother j (fun e => by rw [e, eH] at hb; cases hb)]
  have next : ∀ v W', I (eK (fun j => L.getD j false) i) (dK f o.dst v) W' → wpAny P .any (l ++ tl).toArray Q fuel (L.setIfInBounds i true) (act n (dK f o.dst v)) W' := by
   intro v W' hv
   refine ih _ _ _ ⟨by simpa using hI.size, ?_, ?_, by rw [hDe]; exact hv⟩ ?_
   ·intro j hj hjs
    rw [hother j aC]
    exact hI.tail j hj (by simpa using hjs)
   ·intro j k hl hd
    by_cases e : j = i
    ·subst e
     have hk := hdl k hd
     by_cases e2 : k = j
     ·subst e2; exact hself
     rw [hother k e2]; exact hk
    rw [hother j e] at hl
    have hk := hI.down j k hl hd
    by_cases e2 : k = i
    ·subst e2; exact hself
    rw [hother k e2]; exact hk
   have hcount : (L.setIfInBounds i true).toList.countP (fun b => !b) + 1 = L.toList.countP (fun b => !b) := by
    rw [Array.toList_setIfInBounds]
    exact yH _ _ (by rw [Array.getElem?_toList]; exact hun')
   omega
  unfold wpOp
  simp only [getElem?_toArray, hoo]
  have hw : Region.wanted o (yielded (l ++ tl).toArray (act n f).tmps) = onR l f o := by
   unfold Region.wanted onR
   cases hg : o.guard with
   | none => rfl
   | some jw =>
    obtain ⟨j, w⟩ := jw
    obtain ⟨hd, dd, hdd⟩ := ho.guard i o j w hol hg
    have hjN : j < l.length := by have := ho.lt i j hiN hd; omega
    have hdn := ho.dst j dd hjN hdd
    have : yielded (l ++ tl).toArray (act n f).tmps j = yl (f dd) := by
     unfold yielded
     have e1 : (((l ++ tl).toArray[j]?).bind (·.dst)) = some dd := by
      rw [getElem?_toArray, getElem?_append_left hjN]; exact hdd
     rw [e1]
     simp only [Option.bind_some]
     have e2 : (act n f).tmps[dd]? = some (f dd) := by simp [act, hdn]
     rw [e2]
     cases f dd <;> rfl
    simp only [this, hdd]
  rw [hw]
  have h1 := hs.step i o (fun j => L.getD j false) f W hol (by rw [Array.getD_eq_getD_getElem?, hun']; rfl) (fun j hj => getD_t.2 (hdl j hj)) (fun j k hj hk => getD_t.2 (hI.down j k (getD_t.1 hj) hk)) hI.inv
  cases hon : onR l f o with
  | true =>
   rw [hon] at h1
   simp only [cond_true] at h1
   simp only [if_true]
   exact .inl (Oper.wp_mono (fun a' w' ⟨v, e, hv⟩ => by rw [e]; exact next v w' hv) h1.out)
  | false =>
   rw [hon] at h1
   simp only [cond_false] at h1
   simp only [Bool.false_eq_true, if_false]
   rw [oH]
   exact next undef W h1
theorem inv_startI {I : (Nat → Bool) → (Nat → Value) → World → Prop} {l : List Oper} {m : Nat} {f0 : Nat → Value} {W : World} (h : I (fun _ => false) f0 W) : FlagI l m I (Array.replicate (l.length + m) false) f0 W := by
 have hno : ∀ i : Nat, (Array.replicate (l.length + m) false)[i]? ≠ some true := by
  intro i h
  rw [Array.getElem?_replicate] at h
  split at h <;> cases h
 refine ⟨by simp, ?_, fun i j h => absurd h (hno i), ?_⟩
 ·intro i _ h
  rw [Array.getElem?_replicate, if_pos (by simpa using h)]
 have : (fun i => (Array.replicate (l.length + m) false).getD i false) = fun _ => false := by
  funext i
  cases hb : (Array.replicate (l.length + m) false).getD i false with
  | false => rfl
  | true => exact absurd (getD_t.1 hb) (hno i)
 rw [this]; exact h
theorem tO {id : Nat} {l : List Oper} (k : Nat) (I : (Nat → Bool) → (Nat → Value) → World → Prop) {W : World} {f0 : Nat → Value} (hm : P.follows .mixedOrders = true) (ho : oQ n (l.take k) = true) (hT : ((l.drop k).isEmpty || mU (l.take k) (l.drop k)) = true)
  (start : I (fun _ => false) f0 { W with drawn := W.drawn + 1 }) (hs : KeepI P n Q (l.take k) I)
  (fin : ∀ D f W', (∀ i, i < (l.take k).length → D i = true) → I D f W' → Wl P l.toArray Q (l.drop k) n f W') : (Code.region id l.toArray true).wp P Q (act n f0) W := by
 have e0 : l.take k ++ l.drop k = l := take_append_drop k l
 generalize hl1 : l.take k = l1 at *
 generalize hl2 : l.drop k = tl at *
 rw [← e0] at fin ⊢
 refine wp_region_any hm ?_
 have h := any_mainI (I := I) (tl := tl) (OrdOk.of ho) hs ?_ ?_ (l1.length + tl.length) (Array.replicate (l1.length + tl.length) false) f0 { W with drawn := W.drawn + 1 } (inv_startI start) ?_
 ·simpa using h
 ·rw [Bool.or_eq_true] at hT
  rcases hT with hT | hT
  ·intro i o hi h
   rw [isEmpty_iff.1 hT, append_nil] at h
   have := (gsi_.1 h).1; omega
  exact tail_ht hT
 ·intro fuel L f W' hfuel hall hI
  have hf := fin _ f W' (fun i hi => getD_t.2 (hall i hi)) hI.inv
  rw [Bool.or_eq_true] at hT
  rcases hT with hT | hT
  ·have ht0 := isEmpty_iff.1 hT
   subst ht0
   rw [append_nil] at hf ⊢
   exact any_tail0 fuel L _ W' (fun j hj => hall j hj) hf.out
  exact any_tail hT tl.length 0 fuel L _ W' aC (Nat.zero_le _) hfuel hI.size (fun j hj => hall j aC) (fun j hj hjs => hI.tail j aC hjs) (by simpa using hf.out)
 have := countP_le_length (p := fun b => !b) (l := (Array.replicate (l1.length + tl.length) false).toList)
 simpa using this
theorem aG1 {id : Nat} {l : List Oper} {w0 W : World} {rs : List Res} (k : Nat) {f0 : Nat → Value} (F : List Pl) (hm : P.follows .mixedOrders = true) (ho : oQ n (l.take k) = true) (hT : ((l.drop k).isEmpty || mU (l.take k) (l.drop k)) = true)
  (hst : St w0 W rs) (hs : AllSteps P n W w0 rs Q (l.take k) F f0 0 (l.take k) F)
  (fin : ∀ f W', St w0 W' rs → Below W.heap.size W W' → (∀ i d, i < (l.take k).length → bN (l.take k) i = some d → (F.getD i Pl.off).p (f d) W') → (∀ t, jF (l.take k) t = true → f t = f0 t) → Wl P l.toArray Q (l.drop k) n f W') :
  (Code.region id l.toArray true).wp P Q (act n f0) W := by
 have hO := OrdOk.of ho
 have hb0 : Below W.heap.size W { W with drawn := W.drawn + 1 } := (Below.refl _ _).drew
 refine tO k (fun D f W' => St w0 W' rs ∧ Below W.heap.size W W' ∧ (∀ i d, i < (l.take k).length → D i = true → bN (l.take k) i = some d → (F.getD i Pl.off).p (f d) W') ∧ (∀ t, (∀ i, i < (l.take k).length → D i = true → bN (l.take k) i ≠ some t) → f t = f0 t)) hm ho hT ⟨by simpa using hst.call (St.of_below hb0), hb0, (fun _ _ _ h => by cases h), fun _ _ => rfl⟩ ⟨?_⟩ ?_
 ·rintro i o D f W' hi hDi hdep hdown ⟨h1, h2, h3, h4⟩
  have hiN := (gsi_.1 hi).1
  obtain ⟨p, hp, hstep⟩ := hs.get i o hi
  rw [Nat.zero_add] at hstep
  have hpF : F.getD i Pl.off = p := by rw [getD_eq_getElem?_getD, hp]; rfl
  have hs1 := hstep f W' h1 h2 (fun j d hj hd => h3 j d (by have := hO.lt i j hiN hj; omega) (hdep j hj) hd) (fun t hk => by
   refine h4 t (fun j hjN hj hd => ?_)
   unfold iY at hk
   rw [all_eq_true] at hk
   have := hk j (by simpa using hjN)
   rw [hd] at this
   simp only [eH, Bool.not_true, Bool.or_false, Bool.or_eq_true] at this
   rcases this with h | h
   ·rw [Nat.eq_of_beq_eq_true h, hDi] at hj; cases hj
   have := hdown j i hj h
   rw [hDi] at this; cases this)
  have hdo : bN (l.take k) i = o.dst := by simp [bN, hi]
  have hset : ∀ j, eK D i j = true → j = i ∨ D j = true := fun j hj => by
   unfold eK at hj
   cases hb : Nat.beq j i with
   | true => exact .inl (Nat.eq_of_beq_eq_true hb)
   | false => rw [hb] at hj; exact .inr hj
  have hput : ∀ v t, o.dst ≠ some t → dK f o.dst v t = f t := fun v t ht => by
   cases hod : o.dst with
   | none => rfl
   | some d' => simp only [dK, upd]; rw [gH (fun e' => ht (by rw [hod, e']))]; rfl
  have next : ∀ v W2, Below W'.heap.size W' W2 → p.p v W2 → St w0 W2 rs ∧ Below W.heap.size W W2 ∧ (∀ j d, j < (l.take k).length → eK D i j = true → bN (l.take k) j = some d → (F.getD j Pl.off).p (dK f o.dst v d) W2) ∧ (∀ t, (∀ j, j < (l.take k).length → eK D i j = true → bN (l.take k) j ≠ some t) → dK f o.dst v t = f0 t) := by
   intro v W2 hb hv
   refine ⟨by simpa using h1.call (St.of_below hb), h2.trans (hb.mono h2.size), fun j d hj hl hd => ?_, fun t hk => ?_⟩
   ·by_cases e : j = i
    ·subst e
     rw [hpF]
     rw [hdo] at hd
     rw [hd]
     simp only [dK, upd, eH, cond_true]
     exact hv
    rw [hput v d (fun hod => hO.ne j i d hj hiN e hd (by rw [hdo, hod]))]
    exact (F.getD j Pl.off).up (h3 j d hj ((hset j hl).resolve_left e) hd) hb
   rw [hput v t (by rw [← hdo]; exact hk i hiN (by simp [eK]))]
   exact h4 t (fun j hj hl => hk j hj (by unfold eK; cases Nat.beq j i <;> simp [hl]))
  have hon : onR (l.take k) f o = aK6 (l.take k) F o := by
   unfold onR aK6
   cases hg : o.guard with
   | none => rfl
   | some jw =>
    obtain ⟨j, w⟩ := jw
    obtain ⟨hd, dd, hdd⟩ := hO.guard i o j w hi hg
    have hjN : j < (l.take k).length := by have := hO.lt i j hiN hd; omega
    have hy := (F.getD j Pl.off).yld (h3 j dd hjN (hdep j hd) hdd)
    simp only [hdd, hy]
  rw [hon]
  cases honb : aK6 (l.take k) F o with
  | true => rw [honb] at hs1; exact Stp.mono hs1 (fun v W2 hh => next v W2 hh.1 hh.2)
  | false => rw [honb] at hs1; exact next undef W' (Below.refl _ _) hs1
 rintro D f W' hD ⟨h1, h2, h3, h4⟩
 exact fin f W' h1 h2 (fun i d hi hd => h3 i d hi (hD i hi) hd) (fun t ht => h4 t (fun i hi _ => mE ht i hi))
theorem sx_anyQ0 {id : Nat} {l : List Oper} {w0 W : World} {rs : List Res} {f0 : Nat → Value} (F : List Pl) (hm : P.follows .mixedOrders = true) (ho : oQ n l = true) (hst : St w0 W rs) (hs : AllSteps P n W w0 rs Q l F f0 0 l F)
  (fin : ∀ f W', St w0 W' rs → Below W.heap.size W W' → (∀ i d, i < l.length → bN l i = some d → (F.getD i Pl.off).p (f d) W') → (∀ t, jF l t = true → f t = f0 t) → Q .normal (act n f) W') :
  (Code.region id l.toArray true).wp P Q (act n f0) W := by
 have h := aG1 (P := P) (n := n) (Q := Q) (id := id) (l := l) (f0 := f0) l.length F hm (by rw [take_length]; exact ho) (by rw [drop_length]; rfl) hst (by rw [take_length]; exact hs) (by rw [take_length, drop_length]; exact fun f W' a b c d => aB (fin f W' a b c d))
 exact h
end
def gdB (n : Nat) (l : List Oper) (E : List (Nat × Value)) (o : Oper) : Option Bool :=
 match o.guard with
 | none => some true
 | some (j, w) => (bN l j).bind fun d => cond (Nat.ble (d + 1) n) ((gV E d).bind fun v => some (yl v == some w)) none
def push : Option Tmp → Value → List (Nat × Value) → List (Nat × Value)
 | some d, v, E => (d, v) :: E
 | none, _, E => E
def lkR (n : Nat) (ok : Nat → Nat → Bool) (i : Nat) (E : List (Nat × Value)) : Operand → Option Value
 | .tmp t => cond (ok i t) (lkO n E (.tmp t)) none
 | x => lkO n E x
def aJ5 : Nat → Nat → Bool := fun _ _ => true
def okD (l : List Oper) (i t : Nat) : Bool :=
 (List.range i).any (fun j => (match bN l j with | some d => Nat.beq d t | none => false) && dep l i j) || iY l i t
section
variable {P : Program} {w0 Ws : World} {rs : List Res}
def opC (lk : Operand → Option Value) (o : Op) (hs : List (Hn P w0 Ws rs)) : R1 P w0 Ws rs :=
 match o with
 | .call ⟨.value (.func F), xs, _⟩ => match hs with
  | .c F' _ _ _ args v _ :: hs => cond (Nat.beq F F') ((lks lk xs.toList).bind fun vs => some (v, (vs, args), hs)) none
  | _ => none
 | o => op1 lk o hs
def kR (step : (Operand → Option Value) → Op → List (Hn P w0 Ws rs) → R1 P w0 Ws rs) (n : Nat) (l : List Oper) (ok : Nat → Nat → Bool) : List Oper → Nat → Nat → List (Nat × Value) → List (Hn P w0 Ws rs) → Option (List Value × List (Nat × Value) × (List (List Value) × List (List Value)))
 | _, 0, _, E, _ => some ([], E, ([], []))
 | [], _ + 1, _, _, _ => none
 | o :: os, m + 1, i, E, hs => (gdB n l E o).bind fun b => cond b
   ((step (lkR n ok i E) o.op hs).bind fun r => (kR step n l ok os m (i + 1) (push o.dst r.1 E) r.2.2).bind fun q => some (r.1 :: q.1, q.2.1, (r.2.1.1 :: q.2.2.1, r.2.1.2 :: q.2.2.2)))
   ((kR step n l ok os m (i + 1) (push o.dst undef E) hs).bind fun q => some (undef :: q.1, q.2.1, q.2.2))
end
def cut : List Nat → List (Nat × Value) → List (Nat × Value)
 | [], E => E
 | t :: ws, E => cut ws (wR t E)
def side (b : Bool) (r : Option (List Value × List (Nat × Value) × (List (List Value) × List (List Value)))) (E' : List (Nat × Value)) : Option (List (List Value) × List (Option Value)) :=
 match r with
 | none => cond b none (some ([], []))
 | some q => cond b (some (q.2.2.1, E'.map (fun p => gV q.2.1 p.1))) (some (q.2.2.2, E'.map (fun p => some p.2)))
theorem tR {r : Option (List Value × List (Nat × Value) × (List (List Value) × List (List Value)))} {E' : List (Nat × Value)} (h : side true r E' = side false r E') : ∃ vs E1 L, r = some (vs, E1, (L, L)) ∧ ∀ f, Ag E1 f → Ag E' f := by
 cases r with
 | none => cases h
 | some q =>
  obtain ⟨vs, E1, L, R⟩ := q
  simp only [side, cond_true, cond_false, Option.some.injEq, Prod.mk.injEq] at h
  obtain ⟨rfl, h⟩ := h
  exact ⟨vs, E1, L, rfl, fun f hf => hf.to h⟩
section
variable {P : Program} {n : Nat} {f : Nat → Value} {W w0 Ws : World} {rs : List Res} {Q : Exit → Act → World → Prop}
theorem Ag.push {E : List (Nat × Value)} {d : Option Tmp} {v : Value} (h : Ag E f) : Ag (push d v E) (dK f d v) := by
 cases d with
 | none => exact h
 | some d =>
  intro x u hx
  unfold Go.Proofs.YtanpcpoogkdlaaaGreat.push gV at hx
  simp only [dK, upd]
  cases hb : Nat.beq x d with
  | true => rw [hb] at hx; simpa using hx
  | false => rw [hb] at hx; exact h x u hx
theorem aN3 {ok : Nat → Nat → Bool} {i : Nat} {E : List (Nat × Value)} (h : Ag E f) (x : Operand) (v : Value) (e : lkR n ok i E x = some v) : ev n f x = v := by
 cases x with
 | tmp t =>
  simp only [lkR] at e
  cases hb : ok i t with
  | true => rw [hb] at e; exact jX h _ _ e
  | false => rw [hb] at e; cases e
 | const u => exact jX h _ _ e
 | global g => exact jX h _ _ e
 | func g => exact jX h _ _ e
theorem aD6 {lk : Operand → Option Value} {d : Option Tmp} {ty : TypeId} {pos : String} {af : Array Go.Edge} {g : Option (Nat × Bool)} {hs hs' : List (Hn P w0 Ws rs)} {v : Value} {L R : List Value}
  (hl : ∀ x v, lk x = some v → ev n f x = v) (h1 : St w0 W rs) (h2 : Below Ws.heap.size Ws W) {o : Op} (h : opC lk o hs = some (v, (L, R), hs')) (e : L = R) : Stp P n ⟨d, o, ty, pos, af, g⟩ f W Q (fun u W' => u = v ∧ St w0 W' rs ∧ Below W.heap.size W W') := by
 unfold opC at h
 split at h
 ·next F xs ts =>
  split at h
  ·next F' fn hf ho args u hc hs2 =>
   cases hb : Nat.beq F F' with
   | false => rw [hb] at h; cases h
   | true =>
    rw [hb] at h
    simp only [cond_true] at h
    obtain ⟨vs, hvs, h⟩ := Option.bind_eq_some_iff.1 h
    simp only [Option.some.injEq, Prod.mk.injEq] at h
    obtain ⟨rfl, ⟨rfl, rfl⟩, _⟩ := h
    subst e
    have := Nat.eq_of_beq_eq_true hb
    subst this
    have hx := aD8 hl hvs
    have hq : xs = xs.toList.toArray := by simp
    rw [hq]
    refine iP hf ho hx ((hc W h1 h2).mono ?_)
    rintro en W' ⟨rfl, hst⟩
    exact ⟨_, rfl, rfl, h1.call hst, hst.below⟩
  cases h
 exact aM7 hl h1 h2 h e ⟨rfl, h1, Below.refl _ _⟩
theorem gd_on {l rest : List Oper} {E : List (Nat × Value)} {o : Oper} (hA : Ag E f) (hg : gdB n l E o = some true) (h : Stp P n o f W Q (fun v W' => Wl P l.toArray Q rest n (dK f o.dst v) W')) : Wl P l.toArray Q (o :: rest) n f W := by
 unfold gdB at hg
 split at hg
 ·next hn => exact sx hn h
 next j w hn =>
 obtain ⟨dd, hd, hg⟩ := Option.bind_eq_some_iff.1 hg
 cases hb : Nat.ble (dd + 1) n with
 | false => rw [hb] at hg; cases hg
 | true =>
  rw [hb] at hg
  obtain ⟨v, hv, hg⟩ := Option.bind_eq_some_iff.1 hg
  simp only [Option.some.injEq] at hg
  refine aG0 hn (dd := dd) ?_ (Nat.le_of_ble_eq_true hb) ?_ h
  ·simpa [bN] using hd
  rw [hA dd v hv]; simpa using hg
theorem aN9 {l rest : List Oper} {E : List (Nat × Value)} {o : Oper} (hA : Ag E f) (hg : gdB n l E o = some false) (h : Wl P l.toArray Q rest n (dK f o.dst undef) W) : Wl P l.toArray Q (o :: rest) n f W := by
 unfold gdB at hg
 split at hg
 ·cases hg
 next j w hn =>
 obtain ⟨dd, hd, hg⟩ := Option.bind_eq_some_iff.1 hg
 cases hb : Nat.ble (dd + 1) n with
 | false => rw [hb] at hg; cases hg
 | true =>
  rw [hb] at hg
  obtain ⟨v, hv, hg⟩ := Option.bind_eq_some_iff.1 hg
  simp only [Option.some.injEq] at hg
  refine aC7 hn (dd := dd) ?_ (Nat.le_of_ble_eq_true hb) ?_ h
  ·simpa [bN] using hd
  rw [hA dd v hv]; exact hg
theorem uO {l : List Oper} {ok : Nat → Nat → Bool} (hst : St w0 W rs) (hbl : Below Ws.heap.size Ws W) : ∀ (m : Nat) {rest : List Oper} {i : Nat} {E E1 : List (Nat × Value)} {f : Nat → Value} {hs : List (Hn P w0 Ws rs)} {vs : List Value} {L R : List (List Value)},
  kR op1 n l ok rest m i E hs = some (vs, E1, (L, R)) → L = R → Ag E f → (∀ f', Ag E1 f' → Wl P l.toArray Q (rest.drop m) n f' W) → Wl P l.toArray Q rest n f W
 | 0, rest, i, E, E1, f, hs, vs, L, R, h, e, hA, k => by
  have h' : some (([] : List Value), E, (([] : List (List Value)), ([] : List (List Value)))) = some (vs, E1, (L, R)) := by cases rest <;> exact h
  simp only [Option.some.injEq, Prod.mk.injEq] at h'
  obtain ⟨_, rfl, _⟩ := h'
  simpa using k f hA
 | m + 1, [], i, E, E1, f, hs, vs, L, R, h, e, hA, k => by simp only [kR] at h; cases h
 | m + 1, o :: os, i, E, E1, f, hs, vs, L, R, h, e, hA, k => by
  simp only [kR] at h
  obtain ⟨b, hg, h⟩ := Option.bind_eq_some_iff.1 h
  cases b with
  | false =>
   simp only [cond_false] at h
   obtain ⟨q, hq, h⟩ := Option.bind_eq_some_iff.1 h
   simp only [Option.some.injEq, Prod.mk.injEq] at h
   obtain ⟨_, rfl, h3⟩ := h
   obtain ⟨qv, qE, qL, qR⟩ := q
   simp only [Prod.mk.injEq] at h3
   exact aN9 hA hg (uO hst hbl m hq (by rw [h3.1, h3.2]; exact e) hA.push (fun f' hf => by simpa using k f' hf))
  | true =>
   simp only [cond_true] at h
   obtain ⟨r, hr, h⟩ := Option.bind_eq_some_iff.1 h
   obtain ⟨q, hq, h⟩ := Option.bind_eq_some_iff.1 h
   simp only [Option.some.injEq, Prod.mk.injEq] at h
   obtain ⟨_, rfl, rfl, rfl⟩ := h
   obtain ⟨rv, ⟨rL, rR⟩, rh⟩ := r
   simp only [List.cons.injEq] at e
   exact gd_on hA hg (aM7 (aN3 hA) hst hbl hr e.1 (uO hst hbl m hq e.2 hA.push (fun f' hf => by simpa using k f' hf)))
theorem uP {l : List Oper} {ok : Nat → Nat → Bool} : ∀ (m : Nat) {rest : List Oper} {i : Nat} {W : World} {E E1 : List (Nat × Value)} {f : Nat → Value} {hs : List (Hn P w0 Ws rs)} {vs : List Value} {L R : List (List Value)}, St w0 W rs → Below Ws.heap.size Ws W →
  kR opC n l ok rest m i E hs = some (vs, E1, (L, R)) → L = R → Ag E f → (∀ f' W', Ag E1 f' → St w0 W' rs → Below Ws.heap.size Ws W' → Wl P l.toArray Q (rest.drop m) n f' W') → Wl P l.toArray Q rest n f W
 | 0, rest, i, W, E, E1, f, hs, vs, L, R, hst, hbl, h, e, hA, k => by
  have h' : some (([] : List Value), E, (([] : List (List Value)), ([] : List (List Value)))) = some (vs, E1, (L, R)) := by cases rest <;> exact h
  simp only [Option.some.injEq, Prod.mk.injEq] at h'
  obtain ⟨_, rfl, _⟩ := h'
  simpa using k f W hA hst hbl
 | m + 1, [], i, W, E, E1, f, hs, vs, L, R, hst, hbl, h, e, hA, k => by simp only [kR] at h; cases h
 | m + 1, o :: os, i, W, E, E1, f, hs, vs, L, R, hst, hbl, h, e, hA, k => by
  simp only [kR] at h
  obtain ⟨b, hg, h⟩ := Option.bind_eq_some_iff.1 h
  cases b with
  | false =>
   simp only [cond_false] at h
   obtain ⟨q, hq, h⟩ := Option.bind_eq_some_iff.1 h
   simp only [Option.some.injEq, Prod.mk.injEq] at h
   obtain ⟨_, rfl, h3⟩ := h
   obtain ⟨qv, qE, qL, qR⟩ := q
   simp only [Prod.mk.injEq] at h3
   exact aN9 hA hg (uP m hst hbl hq (by rw [h3.1, h3.2]; exact e) hA.push (fun f' W' hf => by simpa using k f' W' hf))
  | true =>
   simp only [cond_true] at h
   obtain ⟨r, hr, h⟩ := Option.bind_eq_some_iff.1 h
   obtain ⟨q, hq, h⟩ := Option.bind_eq_some_iff.1 h
   simp only [Option.some.injEq, Prod.mk.injEq] at h
   obtain ⟨_, rfl, rfl, rfl⟩ := h
   obtain ⟨rv, ⟨rL, rR⟩, rh⟩ := r
   simp only [List.cons.injEq] at e
   refine gd_on hA hg ((aD6 (aN3 hA) hst hbl hr e.1).mono ?_)
   rintro u W' ⟨rfl, h1, h2⟩
   exact uP m h1 (hbl.trans (h2.mono hbl.size)) hq e.2 hA.push (fun f' W' hf => by simpa using k f' W' hf)
theorem lw {ops : Array Oper} {rest : List Oper} {E : List (Nat × Value)} (hA : Ag E f) (E' : List (Nat × Value)) (e : E'.map (fun p => gV E p.1) = E'.map (fun p => some p.2)) (k : Ag E' f → Wl P ops Q rest n f W) : Wl P ops Q rest n f W := k (hA.to e)
theorem rn {l rest : List Oper} {E : List (Nat × Value)} (hst : St w0 W rs) (m : Nat) (hA : Ag E f) (ws : List Nat) (X : List (Nat × Value)) (hs : List (Hn P w0 W rs)) (h : side true (kR op1 n l aJ5 rest m 0 E hs) (X ++ cut ws E) = side false (kR op1 n l aJ5 rest m 0 E hs) (X ++ cut ws E))
  (k : ∀ f', Ag (X ++ cut ws E) f' → Wl P l.toArray Q (rest.drop m) n f' W) : Wl P l.toArray Q rest n f W := by
 obtain ⟨vs, E1, L, hr, hE⟩ := tR h
 exact uO hst (Below.refl _ _) m hr rfl hA (fun f' hf => k f' (hE f' hf))
theorem rc {l rest : List Oper} {E : List (Nat × Value)} (hst : St w0 W rs) (m : Nat) (hA : Ag E f) (ws : List Nat) (X : List (Nat × Value)) (hs : List (Hn P w0 W rs)) (h : side true (kR opC n l aJ5 rest m 0 E hs) (X ++ cut ws E) = side false (kR opC n l aJ5 rest m 0 E hs) (X ++ cut ws E))
  (k : ∀ f' W', Ag (X ++ cut ws E) f' → St w0 W' rs → Below W.heap.size W W' → Wl P l.toArray Q (rest.drop m) n f' W') : Wl P l.toArray Q rest n f W := by
 obtain ⟨vs, E1, L, hr, hE⟩ := tR h
 exact uP m hst (Below.refl _ _) hr rfl hA (fun f' W' hf => k f' W' (hE f' hf))
/-! ### Regions that draw their order -/
def Pl.any (v : Value) : Pl := ⟨fun u _ => u = v, yl v, fun h _ => h, fun {_ _} e => by rw [e]⟩
def Inl (l : List Oper) (V : List Value) (E0 : List (Nat × Value)) (i : Nat) (E : List (Nat × Value)) : Prop :=
 ∀ t v, gV E t = some v → (∃ j, j < i ∧ bN l j = some t ∧ V[j]? = some v) ∨ ((∀ j, j < i → bN l j ≠ some t) ∧ gV E0 t = some v)
theorem Inl.push {l : List Oper} {V : List Value} {E0 E : List (Nat × Value)} {o : Oper} {v : Value} (h : Inl l V E0 V.length E) (ho : l[V.length]? = some o) : Inl l (V ++ [v]) E0 (V.length + 1) (push o.dst v E) := by
 have hdo : bN l V.length = o.dst := by simp [bN, ho]
 intro t u hu
 have old : gV E t = some u → o.dst ≠ some t → (∃ j, j < V.length + 1 ∧ bN l j = some t ∧ (V ++ [v])[j]? = some u) ∨ ((∀ j, j < V.length + 1 → bN l j ≠ some t) ∧ gV E0 t = some u) := by
  intro hu hne
  rcases h t u hu with ⟨j, hj, hd, hv⟩ | ⟨hn, he⟩
  ·exact .inl ⟨j, by omega, hd, by rw [getElem?_append_left hj]; exact hv⟩
  refine .inr ⟨fun j hj => ?_, he⟩
  by_cases e : j = V.length
  ·subst e; rw [hdo]; exact hne
  exact hn j aC
 cases hd : o.dst with
 | none => rw [hd] at hu; exact old hu (by rw [hd]; exact fun e => by cases e)
 | some d =>
  rw [hd] at hu
  unfold Go.Proofs.YtanpcpoogkdlaaaGreat.push gV at hu
  cases hb : Nat.beq t d with
  | true =>
   rw [hb] at hu
   simp only [cond_true, Option.some.injEq] at hu
   subst hu
   refine .inl ⟨V.length, by omega, ?_, by simp⟩
   rw [hdo, hd, Nat.eq_of_beq_eq_true hb]
  | false =>
   rw [hb] at hu
   refine old hu (fun e => ?_)
   rw [hd] at e
   simp only [Option.some.injEq] at e
   rw [e, eH] at hb; cases hb
theorem vQ {V : List Value} {j : Nat} {v : Value} (h : V[j]? = some v) : (V.map Pl.any).getD j Pl.off = Pl.any v := by
 rw [getD_eq_getElem?_getD, getElem?_map, h]; rfl
theorem oG {l : List Oper} {f0 : Nat → Value} {E0 : List (Nat × Value)} (ho : OrdOk n l) (hA : Ag E0 f0) : ∀ (os : List Oper) {V vs : List Value} {E E1 : List (Nat × Value)} {hs : List (Hn P w0 Ws rs)} {L R : List (List Value)},
  (∀ k, os[k]? = l[V.length + k]?) → kR opC n l (okD l) os os.length V.length E hs = some (vs, E1, (L, R)) → L = R → Inl l V E0 V.length E →
  AllSteps P n Ws w0 rs Q l ((V ++ vs).map Pl.any) f0 V.length os (vs.map Pl.any) ∧ Inl l (V ++ vs) E0 (V.length + os.length) E1 ∧ vs.length = os.length
 | [], V, vs, E, E1, hs, L, R, hos, h, e, hI => by
  simp only [length_nil, kR, Option.some.injEq, Prod.mk.injEq] at h
  obtain ⟨rfl, rfl, _⟩ := h
  exact ⟨trivial, by simpa using hI, rfl⟩
 | o :: os, V, vs, E, E1, hs, L, R, hos, h, e, hI => by
  have hol : l[V.length]? = some o := by have := hos 0; simpa using this.symm
  have hil : V.length < l.length := (gsi_.1 hol).1
  simp only [length_cons, kR] at h
  obtain ⟨b, hg, h⟩ := Option.bind_eq_some_iff.1 h
  have hon : ∀ us : List Value, aK6 l ((V ++ us).map Pl.any) o = b := by
   intro us
   unfold gdB at hg
   unfold aK6
   split at hg
   ·next hn => simp only [Option.some.injEq] at hg; rw [← hg, hn]
   next j w hn =>
   obtain ⟨dd, hd, hg1⟩ := Option.bind_eq_some_iff.1 hg
   cases hb : Nat.ble (dd + 1) n with
   | false => rw [hb] at hg1; cases hg1
   | true =>
    rw [hb] at hg1
    obtain ⟨v, hv, hg2⟩ := Option.bind_eq_some_iff.1 hg1
    simp only [Option.some.injEq] at hg2
    obtain ⟨hdp, dd', hdd'⟩ := ho.guard _ o j w hol hn
    have hji := ho.lt _ _ hil hdp
    rcases hI dd v hv with ⟨j', hj', hd', hv'⟩ | ⟨hno, _⟩
    ·have : j' = j := by
      apply Classical.byContradiction
      intro hne
      exact ho.ne j' j dd aC aC hne hd' hd
     subst this
     rw [hn]
     show ((((V ++ us).map Pl.any).getD j' Pl.off).b == some w) = b
     rw [vQ (v := v) (by rw [getElem?_append_left hj']; exact hv')]
     exact hg2
    exact absurd hd (hno j hji)
  have hlk : ∀ (us : List Value) (f : Nat → Value) (W : World), (∀ j d, dep l V.length j = true → bN l j = some d → (((V ++ us).map Pl.any).getD j Pl.off).p (f d) W) → (∀ t, iY l V.length t = true → f t = f0 t) → ∀ x v, lkR n (okD l) V.length E x = some v → ev n f x = v := by
   intro us f W hd hf x v hx
   cases x with
   | tmp t =>
    simp only [lkR] at hx
    cases hb : okD l V.length t with
    | false => rw [hb] at hx; cases hx
    | true =>
     rw [hb] at hx
     simp only [cond_true, lkO] at hx
     cases hn : Nat.ble (t + 1) n with
     | false => rw [hn] at hx; cases hx
     | true =>
      rw [hn] at hx
      simp only [cond_true] at hx
      simp only [ev, hn, cond_true]
      unfold okD at hb
      rw [Bool.or_eq_true] at hb
      rcases hb with hb | hb
      ·rw [any_eq_true] at hb
       obtain ⟨j, hj, hb⟩ := hb
       rw [mem_range] at hj
       rw [Bool.and_eq_true] at hb
       have hjd : bN l j = some t := by
        have := hb.1
        split at this
        ·next d hd => rw [hd, Nat.eq_of_beq_eq_true this]
        cases this
       rcases hI t v hx with ⟨j', hj', hd', hv'⟩ | ⟨hno, _⟩
       ·have : j' = j := by
         apply Classical.byContradiction
         intro hne
         exact ho.ne j' j t aC aC hne hd' hjd
        subst this
        have := hd j' t hb.2 hjd
        rw [vQ (v := v) (by rw [getElem?_append_left hj']; exact hv')] at this
        exact this
       exact absurd hjd (hno j hj)
      rcases hI t v hx with ⟨j', hj', hd', hv'⟩ | ⟨hno, he⟩
      ·exfalso
       unfold iY at hb
       rw [all_eq_true] at hb
       have := hb j' (by rw [mem_range]; omega)
       rw [hd'] at this
       simp only [eH, Bool.not_true, Bool.or_false, Bool.or_eq_true] at this
       rcases this with h | h
       ·have := Nat.eq_of_beq_eq_true h; omega
       have := ho.lt _ _ aC h; omega
      rw [hf t hb]; exact hA t v he
   | const u => exact jX (f := f) (E := []) Ag.nil _ _ hx
   | global g => exact jX (f := f) (E := []) Ag.nil _ _ hx
   | func g => exact jX (f := f) (E := []) Ag.nil _ _ hx
  have hos' : ∀ (v : Value) k, os[k]? = l[(V ++ [v]).length + k]? := by
   intro v k
   have := hos (k + 1)
   rw [getElem?_cons_succ] at this
   rw [this, length_append, length_singleton, Nat.add_assoc, Nat.add_comm 1 k]
  cases b with
  | false =>
   simp only [cond_false] at h
   obtain ⟨q, hq, h⟩ := Option.bind_eq_some_iff.1 h
   simp only [Option.some.injEq, Prod.mk.injEq] at h
   obtain ⟨rfl, rfl, h3⟩ := h
   obtain ⟨qv, qE, qL, qR⟩ := q
   simp only [Prod.mk.injEq] at h3
   have hq' : kR opC n l (okD l) os os.length (V ++ [undef]).length (Go.Proofs.YtanpcpoogkdlaaaGreat.push o.dst undef E) hs = some (qv, qE, (qL, qR)) := by rw [length_append, length_singleton]; exact hq
   obtain ⟨a1, a2, a3⟩ := oG ho hA os (hos' undef) hq' (by rw [h3.1, h3.2]; exact e) (by have := hI.push (v := undef) hol; rw [length_append, length_singleton]; exact this)
   simp only [append_assoc, singleton_append, length_append, length_singleton] at a1 a2
   refine ⟨⟨fun f W _ _ hd hf => ?_, a1⟩, by rw [length_cons, show V.length + (os.length + 1) = V.length + 1 + os.length by omega]; exact a2, by simp [a3]⟩
   rw [hon (undef :: qv)]
   exact rfl
  | true =>
   simp only [cond_true] at h
   obtain ⟨r, hr, h⟩ := Option.bind_eq_some_iff.1 h
   obtain ⟨q, hq, h⟩ := Option.bind_eq_some_iff.1 h
   simp only [Option.some.injEq, Prod.mk.injEq] at h
   obtain ⟨rfl, rfl, rfl, rfl⟩ := h
   obtain ⟨rv, ⟨rL, rR⟩, rh⟩ := r
   obtain ⟨qv, qE, qL, qR⟩ := q
   simp only [List.cons.injEq] at e
   have hq' : kR opC n l (okD l) os os.length (V ++ [rv]).length (Go.Proofs.YtanpcpoogkdlaaaGreat.push o.dst rv E) rh = some (qv, qE, (qL, qR)) := by rw [length_append, length_singleton]; exact hq
   obtain ⟨a1, a2, a3⟩ := oG ho hA os (hos' rv) hq' e.2 (by have := hI.push (v := rv) hol; rw [length_append, length_singleton]; exact this)
   simp only [append_assoc, singleton_append, length_append, length_singleton] at a1 a2
   refine ⟨⟨fun f W hst hbl hd hf => ?_, a1⟩, by rw [length_cons, show V.length + (os.length + 1) = V.length + 1 + os.length by omega]; exact a2, by simp [a3]⟩
   rw [hon (rv :: qv)]
   exact (aD6 (hlk (rv :: qv) f W hd hf) hst hbl hr e.1).mono (fun u W' hu => ⟨hu.2.2, hu.1⟩)
theorem aJ4 {l : List Oper} {V : List Value} {E0 E1 : List (Nat × Value)} {f0 f : Nat → Value} {W : World} (hA : Ag E0 f0) (hI : Inl l V E0 l.length E1) (hv : ∀ i d, i < l.length → bN l i = some d → ((V.map Pl.any).getD i Pl.off).p (f d) W) (hk : ∀ t, jF l t = true → f t = f0 t) : Ag E1 f := by
 intro t v h
 rcases hI t v h with ⟨j, hj, hd, hvj⟩ | ⟨hn, he⟩
 ·have := hv j t hj hd
  rw [vQ hvj] at this
  exact this
 rw [hk t ?_]
 ·exact hA t v he
 unfold jF
 rw [all_eq_true]
 intro o ho
 obtain ⟨j, hj, rfl⟩ := getElem_of_mem ho
 have := hn j hj
 unfold bN at this
 rw [getElem?_eq_getElem hj, Option.bind_some] at this
 cases hd : l[j].dst with
 | none => rfl
 | some d =>
  rw [hd] at this
  simp only
  rw [gH (fun e => this (by rw [e]))]
  rfl
theorem rd {id : Nat} {l : List Oper} {f0 : Nat → Value} {E : List (Nat × Value)} (hst : St w0 W rs) (hA : Ag E f0) (ws : List Nat) (X : List (Nat × Value)) (hs : List (Hn P w0 W rs)) (hc : (P.follows .mixedOrders && oQ n l) = true)
  (h : side true (kR opC n l (okD l) l l.length 0 E hs) (X ++ cut ws E) = side false (kR opC n l (okD l) l l.length 0 E hs) (X ++ cut ws E))
  (k : ∀ f W', Ag (X ++ cut ws E) f → St w0 W' rs → Below W.heap.size W W' → Q .normal (act n f) W') : (Code.region id l.toArray true).wp P Q (act n f0) W := by
 rw [Bool.and_eq_true] at hc
 obtain ⟨vs, E1, L, hr, hE⟩ := tR h
 obtain ⟨a1, a2, a3⟩ := oG (Q := Q) (OrdOk.of hc.2) hA l (V := []) (by simp) hr rfl (fun t v h => .inr ⟨fun j hj => absurd hj (Nat.not_lt_zero j), h⟩)
 exact sx_anyQ0 _ hc.1 hc.2 hst (by simpa using a1) (fun f W' s b hv hk => k f W' (hE f (aJ4 hA (by simpa using a2) (by simpa using hv) hk)) s b)
theorem rk {id : Nat} {l : List Oper} {f0 : Nat → Value} {E : List (Nat × Value)} (m : Nat) (hst : St w0 W rs) (hA : Ag E f0) (ws : List Nat) (X : List (Nat × Value)) (hs : List (Hn P w0 W rs)) (hc : (P.follows .mixedOrders && (oQ n (l.take m) && mU (l.take m) (l.drop m))) = true)
  (h : side true (kR opC n (l.take m) (okD (l.take m)) (l.take m) (l.take m).length 0 E hs) (X ++ cut ws E) = side false (kR opC n (l.take m) (okD (l.take m)) (l.take m) (l.take m).length 0 E hs) (X ++ cut ws E))
  (k : ∀ f W', Ag (X ++ cut ws E) f → St w0 W' rs → Below W.heap.size W W' → Wl P l.toArray Q (l.drop m) n f W') : (Code.region id l.toArray true).wp P Q (act n f0) W := by
 rw [Bool.and_eq_true, Bool.and_eq_true] at hc
 obtain ⟨vs, E1, L, hr, hE⟩ := tR h
 obtain ⟨a1, a2, a3⟩ := oG (Q := Q) (OrdOk.of hc.2.1) hA (l.take m) (V := []) (by simp) hr rfl (fun t v h => .inr ⟨fun j hj => absurd hj (Nat.not_lt_zero j), h⟩)
 exact aG1 m _ hc.1 hc.2.1 (by rw [hc.2.2, Bool.or_true]) hst (by simpa using a1) (fun f W' s b hv hk => k f W' (hE f (aJ4 hA (by simpa using a2) (by simpa using hv) hk)) s b)
end
section
variable {P : Program} {n : Nat} {f : Nat → Value} {W : World} {Q : Exit → Act → World → Prop}
def jn (n : Nat) (J : (Nat → Value) → World → Prop) (Q : Exit → Act → World → Prop) : Exit → Act → World → Prop
 | .normal, a, w => ∃ f, a = act n f ∧ J f w
 | e, a, w => Q e a w
end
section
variable {P : Program} {n : Nat} {f : Nat → Value} {W : World} {Q : Exit → Act → World → Prop}
end
section
variable {P : Program} {n : Nat} {f : Nat → Value} {W : World} {Q : Exit → Act → World → Prop}
theorem jn_ret {J : (Nat → Value) → World → Prop} {a : Act} {w : World} (h : Q .ret a w) : jn n J Q .ret a w := h
theorem wr {fn : Func} {R : Ending → World → Prop} (h : bodyPost P fn R .ret (act n f) W) (hq : bodyPost P fn R .ret (act n f) W → Q .ret (act n f) W := by intro h_; repeat (first | exact h_ | refine then_ret ?_ | refine blk_ret ?_ | refine jn_ret ?_)) : Code.ret.wp P Q (act n f) W := wp_ret (hq h)
theorem nem (p : Prop) [Decidable p] : ¬ p ∨ p := (Decidable.em p).symm
theorem fL {p : Prop} [Decidable p] (h : ¬ p) : (!decide p) = true := by simp [h]
theorem fM {p : Prop} [Decidable p] (h : p) : (!decide p) = false := by simp [h]
theorem aK {c : Operand} {x y : Code} {p : Prop} [Decidable p] (hc : ev n f c = .bool (decide p)) (ht : p → x.wp P Q (act n f) W) (hf : ¬ p → y.wp P Q (act n f) W) : (Code.cond c x y).wp P Q (act n f) W :=
 cF hc (fun h => ht (of_decide_eq_true h)) (fun h => hf (of_decide_eq_false h))
theorem bE {c : Operand} {x y : Code} {p : Prop} [Decidable p] (hc : ev n f c = .bool (!decide p)) (ht : ¬ p → x.wp P Q (act n f) W) (hf : p → y.wp P Q (act n f) W) : (Code.cond c x y).wp P Q (act n f) W :=
 cF hc (fun h => ht (fun q => by simp [q] at h)) (fun h => hf (by simpa using h))
theorem fB {a b : Bool} (h : a = b) : Ending.returned (.bool a) = .returned (.bool b) := by rw [h]
theorem fI {a b : Int} (h : a = b) : Ending.returned (I a) = .returned (I b) := by rw [h]
end
/-! ### What is told, in short -/
section
variable {P : Program} {w0 Ws : World} {rs : List Res}
def qb (i : Nat) {b : Nat} {cs : List Value} {t : TypeId} (h : rs[i]? = some (Res.bx b cs t)) (j : Nat) : Hn P w0 Ws rs := .m b 0 cs (fun _ s _ => cI (s.get i h)) j
def qw (i : Nat) {b : Nat} {cs : List Value} {t : TypeId} (h : rs[i]? = some (Res.bx b cs t)) {z : Nat} (hl : cs.length = z) : Hn P w0 Ws rs := .w b 0 cs (fun _ s _ => cI (s.get i h)) z hl
theorem uW {W : World} {b : Nat} {pre cs post : List Value} {t : TypeId} (h : (Res.bx b (pre ++ cs ++ post) t).holds W) : W.rangeAt b pre.length cs := by
 intro j v hj
 have h1 := cI h (pre.length + j) v (by
  rw [append_assoc, getElem?_append_right aC, Nat.add_sub_cancel_left, getElem?_append_left (gsi_.1 hj).1]
  exact hj)
 rwa [Nat.zero_add] at h1
def qp (i : Nat) {b : Nat} {pre cs post : List Value} {t : TypeId} (h : rs[i]? = some (Res.bx b (pre ++ cs ++ post) t)) (j : Nat) : Hn P w0 Ws rs := .m b pre.length cs (fun _ s _ => uW (s.get i h)) j
def qr {b o : Nat} {cs : List Value} (h : w0.rangeAt b o cs) (j : Nat) : Hn P w0 Ws rs := .m b o cs (fun _ s _ => eC h s.below) j
def qn {b o : Nat} {cs : List Value} (h : Ws.rangeAt b o cs) (j : Nat) : Hn P w0 Ws rs := .m b o cs (fun _ _ q => eC h q) j
def qrw {b o : Nat} {cs : List Value} (h : w0.rangeAt b o cs) {z : Nat} (hl : cs.length = z) : Hn P w0 Ws rs := .w b o cs (fun _ s _ => eC h s.below) z hl
def qx {v : Value} {k i b o : Nat} (h : PA v k i b o) : Hn P w0 Ws rs := .x v k i b o h (i : Int) rfl
def qxe {v : Value} {k i b o : Nat} (h : PA v k i b o) {e : Int} (he : e = i) : Hn P w0 Ws rs := .x v k i b o h e he
theorem Sl.lis {α : Type} [Shape α] {w : World} {v : Value} {xs : List α} {fp : List Nat} (h : Sl w v xs fp) : Lis v xs.length := by
 obtain ⟨ao, cap, rfl, _⟩ := h; exact ⟨ao, cap, rfl⟩
def ql {α : Type} [Shape α] {w : World} {v : Value} {xs : List α} {fp : List Nat} (h : Sl w v xs fp) : Hn P w0 Ws rs := .l v xs.length h.lis
def qk {e r : Bool} (h : e = r) : Hn P w0 Ws rs := .k e r h
def qc {F : FuncId} {fn : Func} (hf : P.funcs[F]? = some fn) (ho : ((fn.name == "runtime.NumGoroutine") || fn.body.isNone) = false) {args : List Value} {v : Value} (h : ∀ W, St w0 W rs → Below Ws.heap.size Ws W → Calls P F args.toArray W fun e W' => e = .returned v ∧ St W W' []) : Hn P w0 Ws rs := .c F fn hf ho args v h
def qcb {F : FuncId} {fn : Func} (hf : P.funcs[F]? = some fn) (ho : ((fn.name == "runtime.NumGoroutine") || fn.body.isNone) = false) {args : List Value} {e r : Bool} (hk : e = r) (h : ∀ W, St w0 W rs → Below Ws.heap.size Ws W → Calls P F args.toArray W fun en W' => en = .returned (.bool e) ∧ St W W' []) : Hn P w0 Ws rs := .c F fn hf ho args (.bool r) (fun W a b => (h W a b).mono fun _ _ q => ⟨hk ▸ q.1, q.2⟩)
def qad (x y : Int) (h : I64 (x + y) := by first | (unfold I64; omega) | (simp only [I64] at *; omega)) : Hn P w0 Ws rs := .ad x y h
def qsb (x y : Int) (h : I64 (x - y) := by first | (unfold I64; omega) | (simp only [I64] at *; omega)) : Hn P w0 Ws rs := .sb x y h
def qq (x y : Int) (h : (0 ≤ x ∧ x ≤ 9223372036854775807) ∧ 0 < y := by omega) : Hn P w0 Ws rs := .q x y h
end
theorem St.own0 {α : Type} [Shape α] [Agg α] {w0 W : World} {cs : List Value} {x : α} {rs : List Res} (h : St w0 W rs) (hc : Shape.C W cs x []) (ha : Agg.agg α = true) : St w0 W (Res.own (.agg cs.toArray) x [] :: rs) :=
 (St.cs0 h hc).trade1 rfl (fun hh => ⟨⟨cs, by simp only [val, ha, cond_true], hh.1⟩, hh.2⟩)

theorem toEdge_n {x : Edge} (hc : Shape.C w cs x fp) :
  Calls prog 367 #[.agg cs.toArray] w fun e w' => e = .returned (.agg #[I x.from_, I x.to_]) ∧ x.ok ∧ St w w' [] := by
 refine cC func367 rfl ntmps367 aU (wp_seq (aA (sg (aH (cs := cs) rfl (St.start w) ?_)))); intro b1 W2 hb3 st4
 refine sg (aT lL st4 ?_); intro b6 W7 hb8 st9
 refine aB (wp_seq (aA (sg (aT lL st9 ?_)))); intro b11 W12 hb13 st14
 refine aB (wp_seq (aA ?_))
 have hk17 := hc
 obtain ⟨he17, rfl, hok17⟩ := hk17
 have he17 : _ = [I x.from_, I x.to_] := he17
 subst he17
 refine rn st14 3 Ag.nil.put.put.put.put [] [(5, I x.from_), (6, pt_ b11)] [qb 2 rfl 0] aD fun f18 h18_ => (sgn (aN (v := I x.from_) aD (h18_.at 6) (h18_.at 5) rfl rfl st14 bX rfl ?_)); intro W19 st20
 refine aB (wp_seq (aA (rn st20 3 h18_ [] [(8, I x.to_), (9, .pointer (some ⟨b11, 1, none⟩))] [qb 2 rfl 1] aD fun f22 h22_ => (sgn (aN (v := I x.to_) aD (h22_.at 9) (h22_.at 8) rfl rfl st20 bX rfl ?_))))); intro W23 st24
 refine aB (wp_seq (aA (sg (aV (cs := [I x.from_, I x.to_]) gR rfl (h22_.at 3) (st24.get 0 rfl) rfl rfl (sgn (aX aD (h22_.at 2) rfl (aI rfl (aI rfl dC)) st24.f1 bX rfl ?_)))))); intro W28 st29
 refine aB (wr (iR gR rfl results367 (h22_.at 2) (st29.get 0 rfl) rfl ?_))
 exact ⟨rfl, by assumption, st29.bare⟩
theorem toEdge_o {x : Edge} (hc : Shape.C w cs x fp) : Calls prog 367 #[.agg cs.toArray] w fun e w' => ∃ (cs' : List Value) (fp' : List Nat), e = .returned (.agg cs'.toArray) ∧ St w w' [Res.own (.agg cs'.toArray) x fp'] :=
 (toEdge_n w hc).mono (by rintro e w' ⟨rfl, hok, hk⟩; exact ⟨_, _, rfl, St.own0 hk ⟨rfl, rfl, hok⟩ rfl⟩)

theorem toEdgeS_n {v : Value} {xs : List Edge} {fp : List Nat} (h : Sl w v xs fp) (hw : xs.length ≤ 1048576) :
  Calls prog 275 #[v] w (rS_ xs w) := by
 have hl : xs.length ≤ 1048576 := by omega
 refine cC func275 rfl ntmps275 aU (wp_seq (aA (sg (aF (v := .slice none 0 0) rfl (aB (wp_seq (aA (sg (aG (v := v) rfl (sg (fP sl_EdgeSL rfl h (sg (jP (α := Edge) (N := xs.length) rM rfl rfl aC aC (St.start w) ?_))))))))))))); intro b5 W6 hb7 st8
 refine sg (aF (v := .slice (some ⟨b5, 0, none⟩) xs.length xs.length) rfl (aB (wp_seq (wp_seq (aA (sg (aE (aB (wp_block (aQ (fun (m : Nat) (f : Nat → Value) (W : World) => ∃ (k : Nat) (fe14 : List Nat), k ≤ xs.length ∧ m = xs.length - k ∧ Ag [(0, v), (3, .slice (some ⟨b5, 0, none⟩) xs.length xs.length), (4, I (k : Int))] f ∧ St w W ([Res.fill (α := Edge) 239 b5 xs.length (xs.take k) fe14])) (xs.length - 0) ?_ ?_))))))))))
 ·exact ⟨0, [], (by first | omega | simp), rfl, (Ag.nil.put.put.put.put.put.put.put.to aD), st8⟩
 intro m15 f16 W17 hJ18
 obtain ⟨k, fe14, hcd20_0, rfl, hA20, st19⟩ := hJ18
 refine wp_seq (wp_seq (aA (rn st19 4 hA20 [] [(11, .bool (decide ((k : Int) < (xs.length : Int))))] [ql h, .o] aD fun f22 h22_ => (aB (aK (h22_.at 11) (fun h23p => ?_) (fun h23p => ?_))))))
 ·refine wp_skip (wp_seq (wp_block (aA ?_)))
  have hi51fab : k < xs.length := aC
  obtain ⟨b25, o25, cs25, f25, hp25, hr25, hc25, hm25⟩ := idx h (i := k) hi51fab
  refine rn st19 6 h22_ [] [(14, .slice (some ⟨b5, 0, none⟩) xs.length xs.length), (15, I (k : Int)), (19, .agg cs25.toArray)] [qx hp25, qrw hr25 (Shape.len hc25)] aD fun f26 h26_ => (sg (bO func367 rfl (h26_.at 19) ((toEdge_o W17 hc25).mono ?_))); rintro _ W29 ⟨cs27, fp27, rfl, hk30⟩; refine ⟨_, rfl, ?_⟩
  have st31 := St.call st19 hk30
  refine sg (aY kX (h26_.at 14) (pO (b := b5) aC) (h26_.at 15) rfl ?_)
  have st34 := st31.f1.f1.cs rfl
  refine sgn (eG aD rfl (congrArg (fun z => 0 + z * _) (length_take_of_le aC).symm) rfl (.inl rfl) st34 (by rw [length_take_of_le aC]; omega) ?_); intro W36 st37
  refine aB (aA (rn st37 3 h26_.put.put [4] [(4, I ((k : Int) + 1))] [qad (k : Int) 1] aD fun f39 h39_ => (aB ?_)))
  exact ⟨_, xs.length - (k + 1), aC, rfl, k + 1, fe14 ++ fp27, aC, rfl, (h39_.to aD), (by rw [take_succ_eq_append_getElem aC]; exact st37)⟩
 refine wp_exit (wp_seq (aA (sg (aG (h22_.at 3) (sg (aF (v := .slice (some ⟨b5, 0, none⟩) xs.length xs.length) rfl (aB (wr (aM results275 rfl ?_)))))))))
 obtain rfl : k = xs.length := by omega
 rw [take_length] at st19
 have hq_ := st19.full rfl aC
 obtain ⟨fpz, stz⟩ := hq_
 exact ⟨_, fpz, rfl, stz.only 0 rfl⟩
theorem toPlan_n {x : Plan} (hc : Shape.C w cs x fp) (hw : x.wt ≤ 1048576) :
  Calls prog 165 #[.agg cs.toArray] w (rO_ x w) := by
 have hw' := hw
 unfold Plan.wt at hw'
 refine cC func165 rfl ntmps165 aU (wp_seq (aA (sg (aH (cs := cs) rfl (St.start w) ?_)))); intro b1 W2 hb3 st4
 refine sg (aT tN st4 ?_); intro b6 W7 hb8 st9
 refine aB (wp_seq (aA (sg (aT tN st9 ?_)))); intro b11 W12 hb13 st14
 refine aB (wp_seq (aA ?_))
 have hk17 := hc
 obtain ⟨v17_0, g17_0, rfl, hok17, h17_0, rfl⟩ := hk17
 refine rn st14 3 Ag.nil.put.put.put.put [] [(5, I x.prio), (6, pt_ b11)] [qb 2 rfl 0] aD fun f18 h18_ => (sgn (aN (v := I x.prio) aD (h18_.at 6) (h18_.at 5) rfl rfl st14 bX rfl ?_)); intro W19 st20
 refine aB (wp_seq (aA (rn st20 3 h18_ [] [(8, I x.most), (9, .pointer (some ⟨b11, 1, none⟩))] [qb 2 rfl 1] aD fun f22 h22_ => (sgn (aN (v := I x.most) aD (h22_.at 9) (h22_.at 8) rfl rfl st20 bX rfl ?_))))); intro W23 st24
 refine aB (wp_seq (aA (rn st24 3 h22_ [] [(11, I x.wait), (12, .pointer (some ⟨b11, 2, none⟩))] [qb 2 rfl 2] aD fun f26 h26_ => (sgn (aN (v := I x.wait) aD (h26_.at 12) (h26_.at 11) rfl rfl st24 bX rfl ?_))))); intro W27 st28
 refine aB (wp_seq (aA (rn st28 3 h26_ [] [(14, I x.tasks), (15, .pointer (some ⟨b11, 3, none⟩))] [qb 2 rfl 3] aD fun f30 h30_ => (sgn (aN (v := I x.tasks) aD (h30_.at 15) (h30_.at 14) rfl rfl st28 bX rfl ?_))))); intro W31 st32
 refine aB (wp_seq (aA (sg (aL fa_PlanL_4 (h30_.at 1) (sg (bI ld_EdgeSL rfl rfl (st32.get 2 rfl) (i := 4) rfl rfl (sg (bO func275 rfl rfl ((toEdgeS_n W31 (h17_0.below st32.below) (by first | exact hw | omega | (simp only [Plan.wt, Run.wt, Yard.wt, Deed.wt, Note.wt, File.wt, Disk.wt, Engine.wt, WorldD.wt, ActD.wt, Span.wt, Crew.wt] at *; omega))).mono ?_))))))))); rintro _ W37 ⟨v35, fp35, rfl, hk38⟩; refine ⟨_, rfl, ?_⟩
 have st39 := St.call st32 hk38
 refine sg (aL jK (h30_.at 3) (sgn (aN (v := v35) aD rfl rfl (Sl.cells (aR (st39.f1.get 1 rfl))) (Sl.one (aR (st39.f1.get 1 rfl))) st39.f1 bX rfl ?_))); intro W44 st45
 refine aB (wp_seq (aA (sg (aV (cs := [I x.prio, I x.most, I x.wait, I x.tasks, v35]) iM rfl (h30_.at 3) (st45.get 0 rfl) rfl rfl (sgn (aX aD (h30_.at 2) rfl (aI rfl (aI rfl (aI rfl (aI rfl (aI (Sl.one (aR (st45.f2.get 2 rfl))) dC))))) st45.f2 bX rfl ?_)))))); intro W49 st50
 refine aB (wr (iR iM rfl results165 (h30_.at 2) (st50.get 0 rfl) rfl ?_))
 have st52 := rW (x := x) st50.f2 eQ
 exact ⟨_, _, rfl, st52.only 0 rfl⟩
theorem toEntry_n {x : Entry} (hc : Shape.C w cs x fp) :
  Calls prog 398 #[.agg cs.toArray] w fun e w' => e = .returned (.agg #[I x.prio, I x.seq, I x.run, I x.task]) ∧ x.ok ∧ St w w' [] := by
 refine cC func398 rfl ntmps398 aU (wp_seq (aA (sg (aH (cs := cs) rfl (St.start w) ?_)))); intro b1 W2 hb3 st4
 refine sg (aT mQ st4 ?_); intro b6 W7 hb8 st9
 refine aB (wp_seq (aA (sg (aT mQ st9 ?_)))); intro b11 W12 hb13 st14
 refine aB (wp_seq (aA ?_))
 have hk17 := hc
 obtain ⟨he17, rfl, hok17⟩ := hk17
 have he17 : _ = [I x.prio, I x.seq, I x.run, I x.task] := he17
 subst he17
 refine rn st14 3 Ag.nil.put.put.put.put [] [(5, I x.prio), (6, pt_ b11)] [qb 2 rfl 0] aD fun f18 h18_ => (sgn (aN (v := I x.prio) aD (h18_.at 6) (h18_.at 5) rfl rfl st14 bX rfl ?_)); intro W19 st20
 refine aB (wp_seq (aA (rn st20 3 h18_ [] [(8, I x.seq), (9, .pointer (some ⟨b11, 1, none⟩))] [qb 2 rfl 1] aD fun f22 h22_ => (sgn (aN (v := I x.seq) aD (h22_.at 9) (h22_.at 8) rfl rfl st20 bX rfl ?_))))); intro W23 st24
 refine aB (wp_seq (aA (rn st24 3 h22_ [] [(11, I x.run), (12, .pointer (some ⟨b11, 2, none⟩))] [qb 2 rfl 2] aD fun f26 h26_ => (sgn (aN (v := I x.run) aD (h26_.at 12) (h26_.at 11) rfl rfl st24 bX rfl ?_))))); intro W27 st28
 refine aB (wp_seq (aA (rn st28 3 h26_ [] [(14, I x.task), (15, .pointer (some ⟨b11, 3, none⟩))] [qb 2 rfl 3] aD fun f30 h30_ => (sgn (aN (v := I x.task) aD (h30_.at 15) (h30_.at 14) rfl rfl st28 bX rfl ?_))))); intro W31 st32
 refine aB (wp_seq (aA (sg (aV (cs := [I x.prio, I x.seq, I x.run, I x.task]) iT rfl (h30_.at 3) (st32.get 0 rfl) rfl rfl (sgn (aX aD (h30_.at 2) rfl (aI rfl (aI rfl (aI rfl (aI rfl dC)))) st32.f1 bX rfl ?_)))))); intro W36 st37
 refine aB (wr (iR iT rfl results398 (h30_.at 2) (st37.get 0 rfl) rfl ?_))
 exact ⟨rfl, by assumption, st37.bare⟩
theorem toEntry_o {x : Entry} (hc : Shape.C w cs x fp) : Calls prog 398 #[.agg cs.toArray] w fun e w' => ∃ (cs' : List Value) (fp' : List Nat), e = .returned (.agg cs'.toArray) ∧ St w w' [Res.own (.agg cs'.toArray) x fp'] :=
 (toEntry_n w hc).mono (by rintro e w' ⟨rfl, hok, hk⟩; exact ⟨_, _, rfl, St.own0 hk ⟨rfl, rfl, hok⟩ rfl⟩)

theorem toEntryS_n {v : Value} {xs : List Entry} {fp : List Nat} (h : Sl w v xs fp) (hw : xs.length ≤ 1048576) :
  Calls prog 357 #[v] w (rS_ xs w) := by
 have hl : xs.length ≤ 1048576 := by omega
 refine cC func357 rfl ntmps357 aU (wp_seq (aA (sg (aF (v := .slice none 0 0) rfl (aB (wp_seq (aA (sg (aG (v := v) rfl (sg (fP sl_EntrySL rfl h (sg (jP (α := Entry) (N := xs.length) iE rfl rfl aC aC (St.start w) ?_))))))))))))); intro b5 W6 hb7 st8
 refine sg (aF (v := .slice (some ⟨b5, 0, none⟩) xs.length xs.length) rfl (aB (wp_seq (wp_seq (aA (sg (aE (aB (wp_block (aQ (fun (m : Nat) (f : Nat → Value) (W : World) => ∃ (k : Nat) (fe14 : List Nat), k ≤ xs.length ∧ m = xs.length - k ∧ Ag [(0, v), (3, .slice (some ⟨b5, 0, none⟩) xs.length xs.length), (4, I (k : Int))] f ∧ St w W ([Res.fill (α := Entry) 243 b5 xs.length (xs.take k) fe14])) (xs.length - 0) ?_ ?_))))))))))
 ·exact ⟨0, [], (by first | omega | simp), rfl, (Ag.nil.put.put.put.put.put.put.put.to aD), st8⟩
 intro m15 f16 W17 hJ18
 obtain ⟨k, fe14, hcd20_0, rfl, hA20, st19⟩ := hJ18
 refine wp_seq (wp_seq (aA (rn st19 4 hA20 [] [(11, .bool (decide ((k : Int) < (xs.length : Int))))] [ql h, .o] aD fun f22 h22_ => (aB (aK (h22_.at 11) (fun h23p => ?_) (fun h23p => ?_))))))
 ·refine wp_skip (wp_seq (wp_block (aA ?_)))
  have hi51fab : k < xs.length := aC
  obtain ⟨b25, o25, cs25, f25, hp25, hr25, hc25, hm25⟩ := idx h (i := k) hi51fab
  refine rn st19 6 h22_ [] [(14, .slice (some ⟨b5, 0, none⟩) xs.length xs.length), (15, I (k : Int)), (19, .agg cs25.toArray)] [qx hp25, qrw hr25 (Shape.len hc25)] aD fun f26 h26_ => (sg (bO func398 rfl (h26_.at 19) ((toEntry_o W17 hc25).mono ?_))); rintro _ W29 ⟨cs27, fp27, rfl, hk30⟩; refine ⟨_, rfl, ?_⟩
  have st31 := St.call st19 hk30
  refine sg (aY jI (h26_.at 14) (pO (b := b5) aC) (h26_.at 15) rfl ?_)
  have st34 := st31.f1.f1.cs rfl
  refine sgn (eG aD rfl (congrArg (fun z => 0 + z * _) (length_take_of_le aC).symm) rfl (.inl rfl) st34 (by rw [length_take_of_le aC]; omega) ?_); intro W36 st37
  refine aB (aA (rn st37 3 h26_.put.put [4] [(4, I ((k : Int) + 1))] [qad (k : Int) 1] aD fun f39 h39_ => (aB ?_)))
  exact ⟨_, xs.length - (k + 1), aC, rfl, k + 1, fe14 ++ fp27, aC, rfl, (h39_.to aD), (by rw [take_succ_eq_append_getElem aC]; exact st37)⟩
 refine wp_exit (wp_seq (aA (sg (aG (h22_.at 3) (sg (aF (v := .slice (some ⟨b5, 0, none⟩) xs.length xs.length) rfl (aB (wr (aM results357 rfl ?_)))))))))
 obtain rfl : k = xs.length := by omega
 rw [take_length] at st19
 have hq_ := st19.full rfl aC
 obtain ⟨fpz, stz⟩ := hq_
 exact ⟨_, fpz, rfl, stz.only 0 rfl⟩
theorem toTask_n {x : Task} (hc : Shape.C w cs x fp) :
  Calls prog 409 #[.agg cs.toArray] w fun e w' => e = .returned (.agg #[I x.state, I x.need, I x.try_, I x.until_]) ∧ x.ok ∧ St w w' [] := by
 refine cC func409 rfl ntmps409 aU (wp_seq (aA (sg (aH (cs := cs) rfl (St.start w) ?_)))); intro b1 W2 hb3 st4
 refine sg (aT nP st4 ?_); intro b6 W7 hb8 st9
 refine aB (wp_seq (aA (sg (aT nP st9 ?_)))); intro b11 W12 hb13 st14
 refine aB (wp_seq (aA ?_))
 have hk17 := hc
 obtain ⟨he17, rfl, hok17⟩ := hk17
 have he17 : _ = [I x.state, I x.need, I x.try_, I x.until_] := he17
 subst he17
 refine rn st14 3 Ag.nil.put.put.put.put [] [(5, I x.state), (6, pt_ b11)] [qb 2 rfl 0] aD fun f18 h18_ => (sgn (aN (v := I x.state) aD (h18_.at 6) (h18_.at 5) rfl rfl st14 bX rfl ?_)); intro W19 st20
 refine aB (wp_seq (aA (rn st20 3 h18_ [] [(8, I x.need), (9, .pointer (some ⟨b11, 1, none⟩))] [qb 2 rfl 1] aD fun f22 h22_ => (sgn (aN (v := I x.need) aD (h22_.at 9) (h22_.at 8) rfl rfl st20 bX rfl ?_))))); intro W23 st24
 refine aB (wp_seq (aA (rn st24 3 h22_ [] [(11, I x.try_), (12, .pointer (some ⟨b11, 2, none⟩))] [qb 2 rfl 2] aD fun f26 h26_ => (sgn (aN (v := I x.try_) aD (h26_.at 12) (h26_.at 11) rfl rfl st24 bX rfl ?_))))); intro W27 st28
 refine aB (wp_seq (aA (rn st28 3 h26_ [] [(14, I x.until_), (15, .pointer (some ⟨b11, 3, none⟩))] [qb 2 rfl 3] aD fun f30 h30_ => (sgn (aN (v := I x.until_) aD (h30_.at 15) (h30_.at 14) rfl rfl st28 bX rfl ?_))))); intro W31 st32
 refine aB (wp_seq (aA (sg (aV (cs := [I x.state, I x.need, I x.try_, I x.until_]) oA rfl (h30_.at 3) (st32.get 0 rfl) rfl rfl (sgn (aX aD (h30_.at 2) rfl (aI rfl (aI rfl (aI rfl (aI rfl dC)))) st32.f1 bX rfl ?_)))))); intro W36 st37
 refine aB (wr (iR oA rfl results409 (h30_.at 2) (st37.get 0 rfl) rfl ?_))
 exact ⟨rfl, by assumption, st37.bare⟩
theorem toTask_o {x : Task} (hc : Shape.C w cs x fp) : Calls prog 409 #[.agg cs.toArray] w fun e w' => ∃ (cs' : List Value) (fp' : List Nat), e = .returned (.agg cs'.toArray) ∧ St w w' [Res.own (.agg cs'.toArray) x fp'] :=
 (toTask_n w hc).mono (by rintro e w' ⟨rfl, hok, hk⟩; exact ⟨_, _, rfl, St.own0 hk ⟨rfl, rfl, hok⟩ rfl⟩)

theorem toTaskS_n {v : Value} {xs : List Task} {fp : List Nat} (h : Sl w v xs fp) (hw : xs.length ≤ 1048576) :
  Calls prog 399 #[v] w (rS_ xs w) := by
 have hl : xs.length ≤ 1048576 := by omega
 refine cC func399 rfl ntmps399 aU (wp_seq (aA (sg (aF (v := .slice none 0 0) rfl (aB (wp_seq (aA (sg (aG (v := v) rfl (sg (fP sl_TaskSL rfl h (sg (jP (α := Task) (N := xs.length) rJ rfl rfl aC aC (St.start w) ?_))))))))))))); intro b5 W6 hb7 st8
 refine sg (aF (v := .slice (some ⟨b5, 0, none⟩) xs.length xs.length) rfl (aB (wp_seq (wp_seq (aA (sg (aE (aB (wp_block (aQ (fun (m : Nat) (f : Nat → Value) (W : World) => ∃ (k : Nat) (fe14 : List Nat), k ≤ xs.length ∧ m = xs.length - k ∧ Ag [(0, v), (3, .slice (some ⟨b5, 0, none⟩) xs.length xs.length), (4, I (k : Int))] f ∧ St w W ([Res.fill (α := Task) 158 b5 xs.length (xs.take k) fe14])) (xs.length - 0) ?_ ?_))))))))))
 ·exact ⟨0, [], (by first | omega | simp), rfl, (Ag.nil.put.put.put.put.put.put.put.to aD), st8⟩
 intro m15 f16 W17 hJ18
 obtain ⟨k, fe14, hcd20_0, rfl, hA20, st19⟩ := hJ18
 refine wp_seq (wp_seq (aA (rn st19 4 hA20 [] [(11, .bool (decide ((k : Int) < (xs.length : Int))))] [ql h, .o] aD fun f22 h22_ => (aB (aK (h22_.at 11) (fun h23p => ?_) (fun h23p => ?_))))))
 ·refine wp_skip (wp_seq (wp_block (aA ?_)))
  have hi51fab : k < xs.length := aC
  obtain ⟨b25, o25, cs25, f25, hp25, hr25, hc25, hm25⟩ := idx h (i := k) hi51fab
  refine rn st19 6 h22_ [] [(14, .slice (some ⟨b5, 0, none⟩) xs.length xs.length), (15, I (k : Int)), (19, .agg cs25.toArray)] [qx hp25, qrw hr25 (Shape.len hc25)] aD fun f26 h26_ => (sg (bO func409 rfl (h26_.at 19) ((toTask_o W17 hc25).mono ?_))); rintro _ W29 ⟨cs27, fp27, rfl, hk30⟩; refine ⟨_, rfl, ?_⟩
  have st31 := St.call st19 hk30
  refine sg (aY zU (h26_.at 14) (pO (b := b5) aC) (h26_.at 15) rfl ?_)
  have st34 := st31.f1.f1.cs rfl
  refine sgn (eG aD rfl (congrArg (fun z => 0 + z * _) (length_take_of_le aC).symm) rfl (.inl rfl) st34 (by rw [length_take_of_le aC]; omega) ?_); intro W36 st37
  refine aB (aA (rn st37 3 h26_.put.put [4] [(4, I ((k : Int) + 1))] [qad (k : Int) 1] aD fun f39 h39_ => (aB ?_)))
  exact ⟨_, xs.length - (k + 1), aC, rfl, k + 1, fe14 ++ fp27, aC, rfl, (h39_.to aD), (by rw [take_succ_eq_append_getElem aC]; exact st37)⟩
 refine wp_exit (wp_seq (aA (sg (aG (h22_.at 3) (sg (aF (v := .slice (some ⟨b5, 0, none⟩) xs.length xs.length) rfl (aB (wr (aM results399 rfl ?_)))))))))
 obtain rfl : k = xs.length := by omega
 rw [take_length] at st19
 have hq_ := st19.full rfl aC
 obtain ⟨fpz, stz⟩ := hq_
 exact ⟨_, fpz, rfl, stz.only 0 rfl⟩
theorem toRun_n {x : Run} (hc : Shape.C w cs x fp) (hw : x.wt ≤ 1048576) :
  Calls prog 358 #[.agg cs.toArray] w (rO_ x w) := by
 have hw' := hw
 unfold Run.wt at hw'
 refine cC func358 rfl ntmps358 aU (wp_seq (aA (sg (aH (cs := cs) rfl (St.start w) ?_)))); intro b1 W2 hb3 st4
 refine sg (aT oW st4 ?_); intro b6 W7 hb8 st9
 refine aB (wp_seq (aA (sg (aT oW st9 ?_)))); intro b11 W12 hb13 st14
 refine aB (wp_seq (aA ?_))
 have hk17 := hc
 obtain ⟨v17_0, v17_1, g17_0, g17_1, rfl, hok17, h17_0, h17_1, rfl⟩ := hk17
 refine rn st14 3 Ag.nil.put.put.put.put [] [(5, I x.id), (6, pt_ b11)] [qb 2 rfl 0] aD fun f18 h18_ => (sgn (aN (v := I x.id) aD (h18_.at 6) (h18_.at 5) rfl rfl st14 bX rfl ?_)); intro W19 st20
 refine aB (wp_seq (aA (sg (aL fa_RunL_1 (h18_.at 1) (sg (aV (cs := [I x.plan.prio, I x.plan.most, I x.plan.wait, I x.plan.tasks, v17_0]) ld_PlanL rfl rfl (st20.get 2 rfl) rfl rfl (sg (bO func165 rfl rfl ((toPlan_n W19 (show Shape.C _ [I x.plan.prio, I x.plan.most, I x.plan.wait, I x.plan.tasks, v17_0] x.plan _ from ⟨_, _, rfl, eQ, (h17_0.below st20.below), rfl⟩) (by first | exact hw | omega | (simp only [Plan.wt, Run.wt, Yard.wt, Deed.wt, Note.wt, File.wt, Disk.wt, Engine.wt, WorldD.wt, ActD.wt, Span.wt, Crew.wt] at *; omega))).mono ?_))))))))); rintro _ W25 ⟨cs23, fp23, rfl, hk26⟩; refine ⟨_, rfl, ?_⟩
 have st27 := St.call st20 hk26
 refine sg (aL nG (h18_.at 3) ?_)
 obtain ⟨v31_0, g31_0, he31, hok31, st32⟩ := sB st27
 subst he31
 refine sgn (aX aD rfl rfl (aI rfl (aI rfl (aI rfl (aI rfl (aI (Sl.one (aR (st32.f1.get 1 rfl))) dC))))) st32.f1 bX rfl ?_); intro W35 st36
 refine aB (wp_seq (aA (rn st36 3 h18_.put.put.put.put [] [(12, I x.state), (13, .pointer (some ⟨b11, 6, none⟩))] [qb 3 rfl 6] aD fun f38 h38_ => (sgn (aN (v := I x.state) aD (h38_.at 13) (h38_.at 12) rfl rfl st36 bX rfl ?_))))); intro W39 st40
 refine aB (wp_seq (aA (sg (aL fa_RunL_3 (h38_.at 1) (sg (bI ld_TaskSL rfl rfl (st40.get 3 rfl) (i := 7) rfl rfl (sg (bO func399 rfl rfl ((toTaskS_n W39 (h17_1.below st40.below) (by first | exact hw | omega | (simp only [Plan.wt, Run.wt, Yard.wt, Deed.wt, Note.wt, File.wt, Disk.wt, Engine.wt, WorldD.wt, ActD.wt, Span.wt, Crew.wt] at *; omega))).mono ?_))))))))); rintro _ W45 ⟨v43, fp43, rfl, hk46⟩; refine ⟨_, rfl, ?_⟩
 have st47 := St.call st40 hk46
 refine sg (aL nF (h38_.at 3) (sgn (aN (v := v43) aD rfl rfl (Sl.cells (aR (st47.f1.get 1 rfl))) (Sl.one (aR (st47.f1.get 1 rfl))) st47.f1 bX rfl ?_))); intro W52 st53
 refine aB (wp_seq (aA (sg (aV (cs := [I x.id, I x.plan.prio, I x.plan.most, I x.plan.wait, I x.plan.tasks, v31_0, I x.state, v43]) fU rfl (h38_.at 3) (st53.get 0 rfl) rfl rfl (sgn (aX aD (h38_.at 2) rfl (aI rfl (aI rfl (aI rfl (aI rfl (aI rfl (aI (Sl.one (aR (st53.f3.get 3 rfl))) (aI rfl (aI (Sl.one (aR (st53.f3.get 2 rfl))) dC)))))))) st53.f3 bX rfl ?_)))))); intro W57 st58
 refine aB (wr (iR fU rfl results358 (h38_.at 2) (st58.get 0 rfl) rfl ?_))
 have st61 := pZ (x := x) st58.f2.f3 eQ
 exact ⟨_, _, rfl, st61.only 0 rfl⟩
theorem toRunS_n {v : Value} {xs : List Run} {fp : List Nat} (h : Sl w v xs fp) (hw : wtL (fun y : Run => y.wt) xs ≤ 1048576) :
  Calls prog 257 #[v] w (rS_ xs w) := by
 have hl : xs.length ≤ 1048576 := by unfold wtL at hw; omega
 have hw2 := hw
 unfold wtL at hw2
 refine cC func257 rfl ntmps257 aU (wp_seq (aA (sg (aF (v := .slice none 0 0) rfl (aB (wp_seq (aA (sg (aG (v := v) rfl (sg (fP sl_RunSL rfl h (sg (jP (α := Run) (N := xs.length) rK rfl rfl aC aC (St.start w) ?_))))))))))))); intro b5 W6 hb7 st8
 refine sg (aF (v := .slice (some ⟨b5, 0, none⟩) xs.length xs.length) rfl (aB (wp_seq (wp_seq (aA (sg (aE (aB (wp_block (aQ (fun (m : Nat) (f : Nat → Value) (W : World) => ∃ (k : Nat) (fe14 : List Nat), k ≤ xs.length ∧ m = xs.length - k ∧ Ag [(0, v), (3, .slice (some ⟨b5, 0, none⟩) xs.length xs.length), (4, I (k : Int))] f ∧ St w W ([Res.fill (α := Run) 55 b5 xs.length (xs.take k) fe14])) (xs.length - 0) ?_ ?_))))))))))
 ·exact ⟨0, [], (by first | omega | simp), rfl, (Ag.nil.put.put.put.put.put.put.put.to aD), st8⟩
 intro m15 f16 W17 hJ18
 obtain ⟨k, fe14, hcd20_0, rfl, hA20, st19⟩ := hJ18
 refine wp_seq (wp_seq (aA (rn st19 4 hA20 [] [(11, .bool (decide ((k : Int) < (xs.length : Int))))] [ql h, .o] aD fun f22 h22_ => (aB (aK (h22_.at 11) (fun h23p => ?_) (fun h23p => ?_))))))
 ·refine wp_skip (wp_seq (wp_block (aA ?_)))
  have hi51fab : k < xs.length := aC
  obtain ⟨b25, o25, cs25, f25, hp25, hr25, hc25, hm25⟩ := idx h (i := k) hi51fab
  refine rn st19 6 h22_ [] [(14, .slice (some ⟨b5, 0, none⟩) xs.length xs.length), (15, I (k : Int)), (19, .agg cs25.toArray)] [qx hp25, qrw hr25 (Shape.len hc25)] aD fun f26 h26_ => ?_
  have hwk : xs[k].wt ≤ _ := nS (fun y : Run => y.wt) xs k aC
  refine sg (bO func358 rfl (h26_.at 19) ((toRun_n W17 (bG hc25 st19.below) (by first | exact hw | omega | (simp only [Plan.wt, Run.wt, Yard.wt, Deed.wt, Note.wt, File.wt, Disk.wt, Engine.wt, WorldD.wt, ActD.wt, Span.wt, Crew.wt] at *; omega))).mono ?_)); rintro _ W29 ⟨cs27, fp27, rfl, hk30⟩; refine ⟨_, rfl, ?_⟩
  have st31 := St.call st19 hk30
  refine sg (aY pX (h26_.at 14) (pO (b := b5) aC) (h26_.at 15) rfl ?_)
  have st34 := st31.f1.f1.cs rfl
  refine sgn (eG aD rfl (congrArg (fun z => 0 + z * _) (length_take_of_le aC).symm) rfl (.inl rfl) st34 (by rw [length_take_of_le aC]; omega) ?_); intro W36 st37
  refine aB (aA (rn st37 3 h26_.put.put [4] [(4, I ((k : Int) + 1))] [qad (k : Int) 1] aD fun f39 h39_ => (aB ?_)))
  exact ⟨_, xs.length - (k + 1), aC, rfl, k + 1, fe14 ++ fp27, aC, rfl, (h39_.to aD), (by rw [take_succ_eq_append_getElem aC]; exact st37)⟩
 refine wp_exit (wp_seq (aA (sg (aG (h22_.at 3) (sg (aF (v := .slice (some ⟨b5, 0, none⟩) xs.length xs.length) rfl (aB (wr (aM results257 rfl ?_)))))))))
 obtain rfl : k = xs.length := by omega
 rw [take_length] at st19
 have hq_ := st19.full rfl aC
 obtain ⟨fpz, stz⟩ := hq_
 exact ⟨_, fpz, rfl, stz.only 0 rfl⟩
theorem toEntrySS_n {v : Value} {xs : List (List Entry)} {fp : List Nat} (h : Sl w v xs fp) (hw : wtL (fun y : List Entry => y.length) xs ≤ 1048576) :
  Calls prog 256 #[v] w (rS_ xs w) := by
 have hl : xs.length ≤ 1048576 := by unfold wtL at hw; omega
 have hw2 := hw
 unfold wtL at hw2
 refine cC func256 rfl ntmps256 aU (wp_seq (aA (sg (aF (v := .slice none 0 0) rfl (aB (wp_seq (aA (sg (aG (v := v) rfl (sg (fP sl_EntrySSL rfl h (sg (jP (α := (List Entry)) (N := xs.length) kB rfl rfl aC aC (St.start w) ?_))))))))))))); intro b5 W6 hb7 st8
 refine sg (aF (v := .slice (some ⟨b5, 0, none⟩) xs.length xs.length) rfl (aB (wp_seq (wp_seq (aA (sg (aE (aB (wp_block (aQ (fun (m : Nat) (f : Nat → Value) (W : World) => ∃ (k : Nat) (fe14 : List Nat), k ≤ xs.length ∧ m = xs.length - k ∧ Ag [(0, v), (3, .slice (some ⟨b5, 0, none⟩) xs.length xs.length), (4, I (k : Int))] f ∧ St w W ([Res.fill (α := (List Entry)) 217 b5 xs.length (xs.take k) fe14])) (xs.length - 0) ?_ ?_))))))))))
 ·exact ⟨0, [], (by first | omega | simp), rfl, (Ag.nil.put.put.put.put.put.put.put.to aD), st8⟩
 intro m15 f16 W17 hJ18
 obtain ⟨k, fe14, hcd20_0, rfl, hA20, st19⟩ := hJ18
 refine wp_seq (wp_seq (aA (rn st19 4 hA20 [] [(11, .bool (decide ((k : Int) < (xs.length : Int))))] [ql h, .o] aD fun f22 h22_ => (aB (aK (h22_.at 11) (fun h23p => ?_) (fun h23p => ?_))))))
 ·refine wp_skip (wp_seq (wp_block (aA ?_)))
  have hi51fab : k < xs.length := aC
  obtain ⟨b25, o25, cs25, f25, hp25, hr25, hc25, hm25⟩ := idx h (i := k) hi51fab
  have hk25 := hc25
  obtain ⟨v26, rfl, h27⟩ := hk25
  refine rn st19 6 h22_ [] [(14, .slice (some ⟨b5, 0, none⟩) xs.length xs.length), (15, I (k : Int)), (19, v26)] [qx hp25, qr hr25 0] aD fun f28 h28_ => ?_
  have hwk : xs[k].length ≤ _ := nS (fun y : List Entry => y.length) xs k aC
  refine sg (bO func357 rfl (h28_.at 19) ((toEntryS_n W17 (h27.below st19.below) (by first | exact hw | omega | (simp only [Plan.wt, Run.wt, Yard.wt, Deed.wt, Note.wt, File.wt, Disk.wt, Engine.wt, WorldD.wt, ActD.wt, Span.wt, Crew.wt] at *; omega))).mono ?_)); rintro _ W31 ⟨v29, fp29, rfl, hk32⟩; refine ⟨_, rfl, ?_⟩
  have st33 := St.call st19 hk32
  refine sg (aY uL (h28_.at 14) (pO (b := b5) aC) (h28_.at 15) rfl ?_)
  have st36 := st33.f1.f1.cs1
  refine sgn (eG aD rfl (congrArg (fun z => 0 + z * _) (length_take_of_le aC).symm) rfl (.inr ⟨rfl, Sl.cells (aR (st33.f1.f1.get 0 rfl))⟩) st36 (by rw [length_take_of_le aC]; omega) ?_); intro W38 st39
  refine aB (aA (rn st39 3 h28_.put.put [4] [(4, I ((k : Int) + 1))] [qad (k : Int) 1] aD fun f41 h41_ => (aB ?_)))
  exact ⟨_, xs.length - (k + 1), aC, rfl, k + 1, fe14 ++ fp29, aC, rfl, (h41_.to aD), (by rw [take_succ_eq_append_getElem aC]; exact st39)⟩
 refine wp_exit (wp_seq (aA (sg (aG (h22_.at 3) (sg (aF (v := .slice (some ⟨b5, 0, none⟩) xs.length xs.length) rfl (aB (wr (aM results256 rfl ?_)))))))))
 obtain rfl : k = xs.length := by omega
 rw [take_length] at st19
 have hq_ := st19.full rfl aC
 obtain ⟨fpz, stz⟩ := hq_
 exact ⟨_, fpz, rfl, stz.only 0 rfl⟩
theorem toYard_n {x : Yard} (hc : Shape.C w cs x fp) (hw : x.wt ≤ 1048576) :
  Calls prog 141 #[.agg cs.toArray] w (rO_ x w) := by
 have hw' := hw
 unfold Yard.wt at hw'
 refine cC func141 rfl ntmps141 aU (wp_seq (aA (sg (aH (cs := cs) rfl (St.start w) ?_)))); intro b1 W2 hb3 st4
 refine sg (aT nO st4 ?_); intro b6 W7 hb8 st9
 refine aB (wp_seq (aA (sg (aT nO st9 ?_)))); intro b11 W12 hb13 st14
 refine aB (wp_seq (aA ?_))
 have hk17 := hc
 obtain ⟨v17_0, v17_1, g17_0, g17_1, rfl, hok17, h17_0, h17_1, rfl⟩ := hk17
 refine rn st14 3 Ag.nil.put.put.put.put [] [(5, I x.now), (6, pt_ b11)] [qb 2 rfl 0] aD fun f18 h18_ => (sgn (aN (v := I x.now) aD (h18_.at 6) (h18_.at 5) rfl rfl st14 bX rfl ?_)); intro W19 st20
 refine aB (wp_seq (aA (rn st20 3 h18_ [] [(8, I x.seq), (9, .pointer (some ⟨b11, 1, none⟩))] [qb 2 rfl 1] aD fun f22 h22_ => (sgn (aN (v := I x.seq) aD (h22_.at 9) (h22_.at 8) rfl rfl st20 bX rfl ?_))))); intro W23 st24
 refine aB (wp_seq (aA (sg (aL fa_YardL_2 (h22_.at 1) (sg (bI ld_EntrySSL rfl rfl (st24.get 2 rfl) (i := 2) rfl rfl (sg (bO func256 rfl rfl ((toEntrySS_n W23 (h17_0.below st24.below) (by first | exact hw | omega | (simp only [Plan.wt, Run.wt, Yard.wt, Deed.wt, Note.wt, File.wt, Disk.wt, Engine.wt, WorldD.wt, ActD.wt, Span.wt, Crew.wt] at *; omega))).mono ?_))))))))); rintro _ W29 ⟨v27, fp27, rfl, hk30⟩; refine ⟨_, rfl, ?_⟩
 have st31 := St.call st24 hk30
 refine sg (aL jJ (h22_.at 3) (sgn (aN (v := v27) aD rfl rfl (Sl.cells (aR (st31.f1.get 1 rfl))) (Sl.one (aR (st31.f1.get 1 rfl))) st31.f1 bX rfl ?_))); intro W36 st37
 refine aB (wp_seq (aA (sg (aL fa_YardL_3 (h22_.at 1) (sg (bI ld_RunSL rfl rfl (st37.get 3 rfl) (i := 3) rfl rfl (sg (bO func257 rfl rfl ((toRunS_n W36 (h17_1.below st37.below) (by first | exact hw | omega | (simp only [Plan.wt, Run.wt, Yard.wt, Deed.wt, Note.wt, File.wt, Disk.wt, Engine.wt, WorldD.wt, ActD.wt, Span.wt, Crew.wt] at *; omega))).mono ?_))))))))); rintro _ W42 ⟨v40, fp40, rfl, hk43⟩; refine ⟨_, rfl, ?_⟩
 have st44 := St.call st37 hk43
 refine sg (aL iC (h22_.at 3) (sgn (aN (v := v40) aD rfl rfl (Sl.cells (aR (st44.f1.get 1 rfl))) (Sl.one (aR (st44.f1.get 1 rfl))) st44.f1 bX rfl ?_))); intro W49 st50
 refine aB (wp_seq (aA (sg (aV (cs := [I x.now, I x.seq, v27, v40]) iL rfl (h22_.at 3) (st50.get 0 rfl) rfl rfl (sgn (aX aD (h22_.at 2) rfl (aI rfl (aI rfl (aI (Sl.one (aR (st50.f3.get 3 rfl))) (aI (Sl.one (aR (st50.f3.get 2 rfl))) dC)))) st50.f3 bX rfl ?_)))))); intro W54 st55
 refine aB (wr (iR iL rfl results141 (h22_.at 2) (st55.get 0 rfl) rfl ?_))
 have st58 := kY (x := x) st55.f2.f3 eQ
 exact ⟨_, _, rfl, st58.only 0 rfl⟩
theorem toReply_n {x : Reply} (hc : Shape.C w cs x fp) :
  Calls prog 267 #[.agg cs.toArray] w fun e w' => e = .returned (.agg #[I x.code, I x.run, I x.task, I x.try_]) ∧ x.ok ∧ St w w' [] := by
 refine cC func267 rfl ntmps267 aU (wp_seq (aA (sg (aH (cs := cs) rfl (St.start w) ?_)))); intro b1 W2 hb3 st4
 refine sg (aT zI st4 ?_); intro b6 W7 hb8 st9
 refine aB (wp_seq (aA (sg (aT zI st9 ?_)))); intro b11 W12 hb13 st14
 refine aB (wp_seq (aA ?_))
 have hk17 := hc
 obtain ⟨he17, rfl, hok17⟩ := hk17
 have he17 : _ = [I x.code, I x.run, I x.task, I x.try_] := he17
 subst he17
 refine rn st14 3 Ag.nil.put.put.put.put [] [(5, I x.code), (6, pt_ b11)] [qb 2 rfl 0] aD fun f18 h18_ => (sgn (aN (v := I x.code) aD (h18_.at 6) (h18_.at 5) rfl rfl st14 bX rfl ?_)); intro W19 st20
 refine aB (wp_seq (aA (rn st20 3 h18_ [] [(8, I x.run), (9, .pointer (some ⟨b11, 1, none⟩))] [qb 2 rfl 1] aD fun f22 h22_ => (sgn (aN (v := I x.run) aD (h22_.at 9) (h22_.at 8) rfl rfl st20 bX rfl ?_))))); intro W23 st24
 refine aB (wp_seq (aA (rn st24 3 h22_ [] [(11, I x.task), (12, .pointer (some ⟨b11, 2, none⟩))] [qb 2 rfl 2] aD fun f26 h26_ => (sgn (aN (v := I x.task) aD (h26_.at 12) (h26_.at 11) rfl rfl st24 bX rfl ?_))))); intro W27 st28
 refine aB (wp_seq (aA (rn st28 3 h26_ [] [(14, I x.try_), (15, .pointer (some ⟨b11, 3, none⟩))] [qb 2 rfl 3] aD fun f30 h30_ => (sgn (aN (v := I x.try_) aD (h30_.at 15) (h30_.at 14) rfl rfl st28 bX rfl ?_))))); intro W31 st32
 refine aB (wp_seq (aA (sg (aV (cs := [I x.code, I x.run, I x.task, I x.try_]) aA9 rfl (h30_.at 3) (st32.get 0 rfl) rfl rfl (sgn (aX aD (h30_.at 2) rfl (aI rfl (aI rfl (aI rfl (aI rfl dC)))) st32.f1 bX rfl ?_)))))); intro W36 st37
 refine aB (wr (iR aA9 rfl results267 (h30_.at 2) (st37.get 0 rfl) rfl ?_))
 exact ⟨rfl, by assumption, st37.bare⟩
theorem toWait_n {x : Wait} (hc : Shape.C w cs x fp) :
  Calls prog 258 #[.agg cs.toArray] w fun e w' => e = .returned (.agg #[I x.call, I x.reply.code, I x.reply.run, I x.reply.task, I x.reply.try_]) ∧ x.ok ∧ St w w' [] := by
 refine cC func258 rfl ntmps258 aU (wp_seq (aA (sg (aH (cs := cs) rfl (St.start w) ?_)))); intro b1 W2 hb3 st4
 refine sg (aT aF4 st4 ?_); intro b6 W7 hb8 st9
 refine aB (wp_seq (aA (sg (aT aF4 st9 ?_)))); intro b11 W12 hb13 st14
 refine aB (wp_seq (aA ?_))
 have hk17 := hc
 obtain ⟨he17, rfl, hok17⟩ := hk17
 have he17 : _ = [I x.call, I x.reply.code, I x.reply.run, I x.reply.task, I x.reply.try_] := he17
 subst he17
 refine rn st14 3 Ag.nil.put.put.put.put [] [(5, I x.call), (6, pt_ b11)] [qb 2 rfl 0] aD fun f18 h18_ => (sgn (aN (v := I x.call) aD (h18_.at 6) (h18_.at 5) rfl rfl st14 bX rfl ?_)); intro W19 st20
 refine aB (wp_seq (aA (sg (aL fa_WaitL_1 (h18_.at 1) (sg (aV (cs := [I x.reply.code, I x.reply.run, I x.reply.task, I x.reply.try_]) ld_ReplyL rfl rfl (st20.get 2 rfl) rfl rfl (sg (bO func267 rfl rfl ((toReply_n W19 (show Shape.C _ [I x.reply.code, I x.reply.run, I x.reply.task, I x.reply.try_] x.reply [] from ⟨rfl, rfl, eQ⟩)).mono ?_))))))))); rintro _ W23 ⟨rfl, hokf26, hk24⟩; refine ⟨_, rfl, ?_⟩
 have st25 := St.call st20 hk24
 refine sg (aL fa_Wait_1 (h18_.at 3) (sgn (aX aD rfl rfl (aI rfl (aI rfl (aI rfl (aI rfl dC)))) st25 bX rfl ?_))); intro W29 st30
 refine aB (wp_seq (aA (sg (aV (cs := [I x.call, I x.reply.code, I x.reply.run, I x.reply.task, I x.reply.try_]) aH7 rfl (h18_.at 3) (st30.get 0 rfl) rfl rfl (sgn (aX aD (h18_.at 2) rfl (aI rfl (aI rfl (aI rfl (aI rfl (aI rfl dC))))) st30.f1 bX rfl ?_)))))); intro W34 st35
 refine aB (wr (iR aH7 rfl results258 (h18_.at 2) (st35.get 0 rfl) rfl ?_))
 exact ⟨rfl, by assumption, st35.bare⟩
theorem toWait_o {x : Wait} (hc : Shape.C w cs x fp) : Calls prog 258 #[.agg cs.toArray] w fun e w' => ∃ (cs' : List Value) (fp' : List Nat), e = .returned (.agg cs'.toArray) ∧ St w w' [Res.own (.agg cs'.toArray) x fp'] :=
 (toWait_n w hc).mono (by rintro e w' ⟨rfl, hok, hk⟩; exact ⟨_, _, rfl, St.own0 hk ⟨rfl, rfl, hok⟩ rfl⟩)

theorem toWaitS_n {v : Value} {xs : List Wait} {fp : List Nat} (h : Sl w v xs fp) (hw : xs.length ≤ 1048576) :
  Calls prog 142 #[v] w (rS_ xs w) := by
 have hl : xs.length ≤ 1048576 := by omega
 refine cC func142 rfl ntmps142 aU (wp_seq (aA (sg (aF (v := .slice none 0 0) rfl (aB (wp_seq (aA (sg (aG (v := v) rfl (sg (fP sl_WaitSL rfl h (sg (jP (α := Wait) (N := xs.length) ap_WaitS rfl rfl aC aC (St.start w) ?_))))))))))))); intro b5 W6 hb7 st8
 refine sg (aF (v := .slice (some ⟨b5, 0, none⟩) xs.length xs.length) rfl (aB (wp_seq (wp_seq (aA (sg (aE (aB (wp_block (aQ (fun (m : Nat) (f : Nat → Value) (W : World) => ∃ (k : Nat) (fe14 : List Nat), k ≤ xs.length ∧ m = xs.length - k ∧ Ag [(0, v), (3, .slice (some ⟨b5, 0, none⟩) xs.length xs.length), (4, I (k : Int))] f ∧ St w W ([Res.fill (α := Wait) 87 b5 xs.length (xs.take k) fe14])) (xs.length - 0) ?_ ?_))))))))))
 ·exact ⟨0, [], (by first | omega | simp), rfl, (Ag.nil.put.put.put.put.put.put.put.to aD), st8⟩
 intro m15 f16 W17 hJ18
 obtain ⟨k, fe14, hcd20_0, rfl, hA20, st19⟩ := hJ18
 refine wp_seq (wp_seq (aA (rn st19 4 hA20 [] [(11, .bool (decide ((k : Int) < (xs.length : Int))))] [ql h, .o] aD fun f22 h22_ => (aB (aK (h22_.at 11) (fun h23p => ?_) (fun h23p => ?_))))))
 ·refine wp_skip (wp_seq (wp_block (aA ?_)))
  have hi51fab : k < xs.length := aC
  obtain ⟨b25, o25, cs25, f25, hp25, hr25, hc25, hm25⟩ := idx h (i := k) hi51fab
  refine rn st19 6 h22_ [] [(14, .slice (some ⟨b5, 0, none⟩) xs.length xs.length), (15, I (k : Int)), (19, .agg cs25.toArray)] [qx hp25, qrw hr25 (Shape.len hc25)] aD fun f26 h26_ => (sg (bO func258 rfl (h26_.at 19) ((toWait_o W17 hc25).mono ?_))); rintro _ W29 ⟨cs27, fp27, rfl, hk30⟩; refine ⟨_, rfl, ?_⟩
  have st31 := St.call st19 hk30
  refine sg (aY zT (h26_.at 14) (pO (b := b5) aC) (h26_.at 15) rfl ?_)
  have st34 := st31.f1.f1.cs rfl
  refine sgn (eG aD rfl (congrArg (fun z => 0 + z * _) (length_take_of_le aC).symm) rfl (.inl rfl) st34 (by rw [length_take_of_le aC]; omega) ?_); intro W36 st37
  refine aB (aA (rn st37 3 h26_.put.put [4] [(4, I ((k : Int) + 1))] [qad (k : Int) 1] aD fun f39 h39_ => (aB ?_)))
  exact ⟨_, xs.length - (k + 1), aC, rfl, k + 1, fe14 ++ fp27, aC, rfl, (h39_.to aD), (by rw [take_succ_eq_append_getElem aC]; exact st37)⟩
 refine wp_exit (wp_seq (aA (sg (aG (h22_.at 3) (sg (aF (v := .slice (some ⟨b5, 0, none⟩) xs.length xs.length) rfl (aB (wr (aM results142 rfl ?_)))))))))
 obtain rfl : k = xs.length := by omega
 rw [take_length] at st19
 have hq_ := st19.full rfl aC
 obtain ⟨fpz, stz⟩ := hq_
 exact ⟨_, fpz, rfl, stz.only 0 rfl⟩
theorem toFile_n {x : File} (hc : Shape.C w cs x fp) :
  Calls prog 243 #[.agg cs.toArray] w fun e w' => e = .returned (.agg #[.string x.name, .string x.data, I x.safe]) ∧ x.ok ∧ St w w' [] := by
 refine cC func243 rfl ntmps243 aU (wp_seq (aA (sg (aH (cs := cs) rfl (St.start w) ?_)))); intro b1 W2 hb3 st4
 refine sg (aT aF5 st4 ?_); intro b6 W7 hb8 st9
 refine aB (wp_seq (aA (sg (aT aF5 st9 ?_)))); intro b11 W12 hb13 st14
 refine aB (wp_seq (aA ?_))
 have hk17 := hc
 obtain ⟨he17, rfl, hok17⟩ := hk17
 have he17 : _ = [.string x.name, .string x.data, I x.safe] := he17
 subst he17
 refine rn st14 3 Ag.nil.put.put.put.put [] [(5, .string x.name), (6, pt_ b11)] [qb 2 rfl 0] aD fun f18 h18_ => (sgn (aN (v := .string x.name) aD (h18_.at 6) (h18_.at 5) rfl rfl st14 bX rfl ?_)); intro W19 st20
 refine aB (wp_seq (aA (rn st20 3 h18_ [] [(8, .string x.data), (9, .pointer (some ⟨b11, 1, none⟩))] [qb 2 rfl 1] aD fun f22 h22_ => (sgn (aN (v := .string x.data) aD (h22_.at 9) (h22_.at 8) rfl rfl st20 bX rfl ?_))))); intro W23 st24
 refine aB (wp_seq (aA (rn st24 3 h22_ [] [(11, I x.safe), (12, .pointer (some ⟨b11, 2, none⟩))] [qb 2 rfl 2] aD fun f26 h26_ => (sgn (aN (v := I x.safe) aD (h26_.at 12) (h26_.at 11) rfl rfl st24 bX rfl ?_))))); intro W27 st28
 refine aB (wp_seq (aA (sg (aV (cs := [.string x.name, .string x.data, I x.safe]) aH8 rfl (h26_.at 3) (st28.get 0 rfl) rfl rfl (sgn (aX aD (h26_.at 2) rfl (aI rfl (aI rfl (aI rfl dC))) st28.f1 bX rfl ?_)))))); intro W32 st33
 refine aB (wr (iR aH8 rfl results243 (h26_.at 2) (st33.get 0 rfl) rfl ?_))
 exact ⟨rfl, by assumption, st33.bare⟩
theorem toFile_o {x : File} (hc : Shape.C w cs x fp) : Calls prog 243 #[.agg cs.toArray] w fun e w' => ∃ (cs' : List Value) (fp' : List Nat), e = .returned (.agg cs'.toArray) ∧ St w w' [Res.own (.agg cs'.toArray) x fp'] :=
 (toFile_n w hc).mono (by rintro e w' ⟨rfl, hok, hk⟩; exact ⟨_, _, rfl, St.own0 hk ⟨rfl, rfl, hok⟩ rfl⟩)

theorem toFileS_n {v : Value} {xs : List File} {fp : List Nat} (h : Sl w v xs fp) (hw : wtL (fun y : File => y.wt) xs ≤ 1048576) :
  Calls prog 127 #[v] w (rS_ xs w) := by
 have hl : xs.length ≤ 1048576 := by unfold wtL at hw; omega
 have hw2 := hw
 unfold wtL at hw2
 refine cC func127 rfl ntmps127 aU (wp_seq (aA (sg (aF (v := .slice none 0 0) rfl (aB (wp_seq (aA (sg (aG (v := v) rfl (sg (fP sl_FileSL rfl h (sg (jP (α := File) (N := xs.length) ap_FileS rfl rfl aC aC (St.start w) ?_))))))))))))); intro b5 W6 hb7 st8
 refine sg (aF (v := .slice (some ⟨b5, 0, none⟩) xs.length xs.length) rfl (aB (wp_seq (wp_seq (aA (sg (aE (aB (wp_block (aQ (fun (m : Nat) (f : Nat → Value) (W : World) => ∃ (k : Nat) (fe14 : List Nat), k ≤ xs.length ∧ m = xs.length - k ∧ Ag [(0, v), (3, .slice (some ⟨b5, 0, none⟩) xs.length xs.length), (4, I (k : Int))] f ∧ St w W ([Res.fill (α := File) 131 b5 xs.length (xs.take k) fe14])) (xs.length - 0) ?_ ?_))))))))))
 ·exact ⟨0, [], (by first | omega | simp), rfl, (Ag.nil.put.put.put.put.put.put.put.to aD), st8⟩
 intro m15 f16 W17 hJ18
 obtain ⟨k, fe14, hcd20_0, rfl, hA20, st19⟩ := hJ18
 refine wp_seq (wp_seq (aA (rn st19 4 hA20 [] [(11, .bool (decide ((k : Int) < (xs.length : Int))))] [ql h, .o] aD fun f22 h22_ => (aB (aK (h22_.at 11) (fun h23p => ?_) (fun h23p => ?_))))))
 ·refine wp_skip (wp_seq (wp_block (aA ?_)))
  have hi51fab : k < xs.length := aC
  obtain ⟨b25, o25, cs25, f25, hp25, hr25, hc25, hm25⟩ := idx h (i := k) hi51fab
  refine rn st19 6 h22_ [] [(14, .slice (some ⟨b5, 0, none⟩) xs.length xs.length), (15, I (k : Int)), (19, .agg cs25.toArray)] [qx hp25, qrw hr25 (Shape.len hc25)] aD fun f26 h26_ => ?_
  have hwk : xs[k].wt ≤ _ := nS (fun y : File => y.wt) xs k aC
  refine sg (bO func243 rfl (h26_.at 19) ((toFile_o W17 hc25).mono ?_)); rintro _ W29 ⟨cs27, fp27, rfl, hk30⟩; refine ⟨_, rfl, ?_⟩
  have st31 := St.call st19 hk30
  refine sg (aY fW (h26_.at 14) (pO (b := b5) aC) (h26_.at 15) rfl ?_)
  have st34 := st31.f1.f1.cs rfl
  refine sgn (eG aD rfl (congrArg (fun z => 0 + z * _) (length_take_of_le aC).symm) rfl (.inl rfl) st34 (by rw [length_take_of_le aC]; omega) ?_); intro W36 st37
  refine aB (aA (rn st37 3 h26_.put.put [4] [(4, I ((k : Int) + 1))] [qad (k : Int) 1] aD fun f39 h39_ => (aB ?_)))
  exact ⟨_, xs.length - (k + 1), aC, rfl, k + 1, fe14 ++ fp27, aC, rfl, (h39_.to aD), (by rw [take_succ_eq_append_getElem aC]; exact st37)⟩
 refine wp_exit (wp_seq (aA (sg (aG (h22_.at 3) (sg (aF (v := .slice (some ⟨b5, 0, none⟩) xs.length xs.length) rfl (aB (wr (aM results127 rfl ?_)))))))))
 obtain rfl : k = xs.length := by omega
 rw [take_length] at st19
 have hq_ := st19.full rfl aC
 obtain ⟨fpz, stz⟩ := hq_
 exact ⟨_, fpz, rfl, stz.only 0 rfl⟩
theorem toDisk_n {x : Disk} (hc : Shape.C w cs x fp) (hw : x.wt ≤ 1048576) :
  Calls prog 35 #[.agg cs.toArray] w (rO_ x w) := by
 have hw' := hw
 unfold Disk.wt at hw'
 refine cC func35 rfl ntmps35 aU (wp_seq (aA (sg (aH (cs := cs) rfl (St.start w) ?_)))); intro b1 W2 hb3 st4
 refine sg (aT aF6 st4 ?_); intro b6 W7 hb8 st9
 refine aB (wp_seq (aA (sg (aT aF6 st9 ?_)))); intro b11 W12 hb13 st14
 refine aB (wp_seq (aA ?_))
 have hk17 := hc
 obtain ⟨v17_0, g17_0, rfl, hok17, h17_0, rfl⟩ := hk17
 refine sg (aL fa_DiskL_0 rfl (sg (bI ld_FileSL rfl rfl (st14.get 2 rfl) (i := 0) rfl rfl (sg (bO func127 rfl rfl ((toFileS_n W12 (h17_0.below st14.below) (by first | exact hw | omega | (simp only [Plan.wt, Run.wt, Yard.wt, Deed.wt, Note.wt, File.wt, Disk.wt, Engine.wt, WorldD.wt, ActD.wt, Span.wt, Crew.wt] at *; omega))).mono ?_)))))); rintro _ W21 ⟨v19, fp19, rfl, hk22⟩; refine ⟨_, rfl, ?_⟩
 have st23 := St.call st14 hk22
 refine sg (aL yB rfl (sgn (aN (v := v19) aD rfl rfl (Sl.cells (aR (st23.f1.get 1 rfl))) (Sl.one (aR (st23.f1.get 1 rfl))) st23.f1 bX rfl ?_))); intro W28 st29
 refine aB (wp_seq (aA (sg (aV (cs := [v19]) aH9 rfl rfl (st29.get 0 rfl) rfl rfl (sgn (aX aD rfl rfl (aI (Sl.one (aR (st29.f2.get 2 rfl))) dC) st29.f2 bX rfl ?_)))))); intro W33 st34
 refine aB (wr (iR aH9 rfl results35 rfl (st34.get 0 rfl) rfl ?_))
 have st36 := rX (x := x) st34.f2 eQ
 exact ⟨_, _, rfl, st36.only 0 rfl⟩
theorem lN {x : Engine} (hc : Shape.C w cs x fp) (hw : x.wt ≤ 1048576) :
  Calls prog 43 #[.agg cs.toArray] w (rO_ x w) := by
 have hw' := hw
 unfold Engine.wt at hw'
 refine cC func43 rfl ntmps43 aU (wp_seq (aA (sg (aH (cs := cs) rfl (St.start w) ?_)))); intro b1 W2 hb3 st4
 refine sg (aT jH st4 ?_); intro b6 W7 hb8 st9
 refine aB (wp_seq (aA (sg (aT jH st9 ?_)))); intro b11 W12 hb13 st14
 refine aB (wp_seq (aA ?_))
 have hk17 := hc
 obtain ⟨v17_0, v17_1, v17_2, v17_3, g17_0, g17_1, g17_2, g17_3, rfl, hok17, h17_0, h17_1, h17_2, h17_3, rfl⟩ := hk17
 refine sg (aL fa_EngineL_0 rfl (sg (aV (cs := [I x.yard.now, I x.yard.seq, v17_0, v17_1]) ld_YardL rfl rfl (st14.get 2 rfl) rfl rfl (sg (bO func141 rfl rfl ((toYard_n W12 (show Shape.C _ [I x.yard.now, I x.yard.seq, v17_0, v17_1] x.yard _ from ⟨_, _, _, _, rfl, eQ, (h17_0.below st14.below), (h17_1.below st14.below), rfl⟩) (by first | exact hw | omega | (simp only [Plan.wt, Run.wt, Yard.wt, Deed.wt, Note.wt, File.wt, Disk.wt, Engine.wt, WorldD.wt, ActD.wt, Span.wt, Crew.wt] at *; omega))).mono ?_)))))); rintro _ W21 ⟨cs19, fp19, rfl, hk22⟩; refine ⟨_, rfl, ?_⟩
 have st23 := St.call st14 hk22
 refine sg (aL fa_Engine_0 rfl ?_)
 obtain ⟨v27_0, v27_1, g27_0, g27_1, he27, hok27, st28⟩ := sA st23
 subst he27
 refine sgn (aX aD rfl rfl (aI rfl (aI rfl (aI (Sl.one (aR (st28.f2.get 1 rfl))) (aI (Sl.one (aR (st28.f2.get 2 rfl))) dC)))) st28.f2 bX rfl ?_); intro W32 st33
 refine aB (wp_seq (aA (sg (aL fa_EngineL_1 rfl (sg (aV (cs := [v17_2]) ld_DiskL rfl rfl (st33.get 4 rfl) rfl rfl (sg (bO func35 rfl rfl ((toDisk_n W32 (show Shape.C _ [v17_2] x.disk _ from ⟨_, _, rfl, eQ, (h17_2.below st33.below), rfl⟩) (by first | exact hw | omega | (simp only [Plan.wt, Run.wt, Yard.wt, Deed.wt, Note.wt, File.wt, Disk.wt, Engine.wt, WorldD.wt, ActD.wt, Span.wt, Crew.wt] at *; omega))).mono ?_))))))))); rintro _ W38 ⟨cs36, fp36, rfl, hk39⟩; refine ⟨_, rfl, ?_⟩
 have st40 := St.call st33 hk39
 refine sg (aL fa_Engine_1 rfl ?_)
 obtain ⟨v44_0, g44_0, he44, hok44, st45⟩ := sC st40
 subst he44
 refine sgn (aX aD rfl rfl (aI (Sl.one (aR (st45.f1.get 1 rfl))) dC) st45.f1 bX rfl ?_); intro W48 st49
 refine aB (wp_seq (aA (rn st49 3 Ag.nil.put.put.put.put.put.put.put.put.put.put.put.put [] [(13, I x.next), (14, .pointer (some ⟨b11, 5, none⟩))] [qb 5 rfl 5] aD fun f51 h51_ => (sgn (aN (v := I x.next) aD (h51_.at 14) (h51_.at 13) rfl rfl st49 bX rfl ?_))))); intro W52 st53
 refine aB (wp_seq (aA (rn st53 3 h51_ [] [(16, I x.calls), (17, .pointer (some ⟨b11, 6, none⟩))] [qb 5 rfl 6] aD fun f55 h55_ => (sgn (aN (v := I x.calls) aD (h55_.at 17) (h55_.at 16) rfl rfl st53 bX rfl ?_))))); intro W56 st57
 refine aB (wp_seq (aA (sg (aL fa_EngineL_4 (h55_.at 1) (sg (bI ld_WaitSL rfl rfl (st57.get 5 rfl) (i := 7) rfl rfl (sg (bO func142 rfl rfl ((toWaitS_n W56 (h17_3.below st57.below) (by first | exact hw | omega | (simp only [Plan.wt, Run.wt, Yard.wt, Deed.wt, Note.wt, File.wt, Disk.wt, Engine.wt, WorldD.wt, ActD.wt, Span.wt, Crew.wt] at *; omega))).mono ?_))))))))); rintro _ W62 ⟨v60, fp60, rfl, hk63⟩; refine ⟨_, rfl, ?_⟩
 have st64 := St.call st57 hk63
 refine sg (aL fa_Engine_4 (h55_.at 3) (sgn (aN (v := v60) aD rfl rfl (Sl.cells (aR (st64.f1.get 1 rfl))) (Sl.one (aR (st64.f1.get 1 rfl))) st64.f1 bX rfl ?_))); intro W69 st70
 refine aB (wp_seq (aA (lw h55_.put.put.put.put [(1, pt_ b1), (2, pt_ b6), (3, pt_ b11)] aD fun h73_ => (rn st70 3 h73_ [] [(23, I x.state), (24, .pointer (some ⟨b11, 8, none⟩))] [qb 6 rfl 8] aD fun f72 h72_ => (sgn (aN (v := I x.state) aD (h72_.at 24) (h72_.at 23) rfl rfl st70 bX rfl ?_)))))); intro W74 st75
 refine aB (wp_seq (aA (rn st75 3 h72_ [] [(26, .bool x.broken), (27, .pointer (some ⟨b11, 9, none⟩))] [qb 6 rfl 9] aD fun f77 h77_ => (sgn (aN (v := .bool x.broken) aD (h77_.at 27) (h77_.at 26) rfl rfl st75 bX rfl ?_))))); intro W78 st79
 refine aB (wp_seq (aA (sg (aV (cs := [I x.yard.now, I x.yard.seq, v27_0, v27_1, v44_0, I x.next, I x.calls, v60, I x.state, .bool x.broken]) eJ rfl (h77_.at 3) (st79.get 0 rfl) rfl rfl (sgn (aX aD (h77_.at 2) rfl (aI rfl (aI rfl (aI (Sl.one (aR (st79.f5.get 4 rfl))) (aI (Sl.one (aR (st79.f5.get 5 rfl))) (aI (Sl.one (aR (st79.f5.get 3 rfl))) (aI rfl (aI rfl (aI (Sl.one (aR (st79.f5.get 2 rfl))) (aI rfl (aI rfl dC)))))))))) st79.f5 bX rfl ?_)))))); intro W83 st84
 refine aB (wr (iR eJ rfl results43 (h77_.at 2) (st84.get 0 rfl) rfl ?_))
 have st89 := tB (x := x) st84.f2.f3.f5.f5 eQ
 exact ⟨_, _, rfl, st89.only 0 rfl⟩
theorem hU {l : Int} {n : Nat} (h : szL l n < 0) (hl : 0 ≤ l) : l < n := by
 unfold szL at h; split at h <;> omega
theorem hX {l : Int} {n : Nat} (h : ¬ szL l n < 0) (hl : 0 ≤ l) : (n : Int) ≤ l ∧ szL l n = l - n := by
 unfold szL at *; split at h <;> simp_all <;> omega

theorem tq1_ {P : Prop} (h : P := by
 have hcap := h.len_le
 refine bC zq1 rfl zq2 aU (wp_seq (aA (sg (aE (aB (wp_seq (aA (rn (St.start w) 5 Ag.nil.put.put.put [1] [(1, I (l - (xs.length : Int)))] [ql h, qsb l (xs.length : Int)] aD fun f4 h4_ => (aB (wp_seq (wp_seq (aA ?_))))))))))))
 refine sg (aG (h4_.at 1) (sg (bA rfl rfl (aB (aK rfl (fun h7p => ?_) (fun h7p => ?_))))))
 ·refine wp_seq (aA (sg (aE (aB (wr (aM zq3 rfl ?_))))))
  exact ⟨fI (gX aC).symm, (St.start w).bare⟩
 refine wp_skip (wp_seq (aA (sg (aG (h4_.at 1) (sg (aF (v := I (l - (xs.length : Int))) rfl (aB (wr (aM zq3 rfl ?_)))))))))
 exact ⟨fI (by rw [oN aC]; try omega), (St.start w).bare⟩) : P := h
theorem szEdgeS_n {v : Value} {xs : List Edge} {fp : List Nat} (h : Sl w v xs fp) (l : Int) (hl : 0 ≤ l) (hl2 : l ≤ 1048576) :
  Calls prog 274 #[v, I l] w fun e w' => e = .returned (I (szL l xs.length)) ∧ St w w' [] := by have zq1 := @func274; have zq2 := @ntmps274; have zq3 := @results274; exact tq1_
theorem szPlan_n {x : Plan} (hc : Shape.C w cs x fp) (l : Int) (hl : 0 ≤ l) (hl2 : l ≤ 1048576) :
  Calls prog 164 #[.agg cs.toArray, I l] w (rI_ (szL l x.wt) w) := by
 have hwt : x.wt = x.edges.length := rfl
 refine bC func164 rfl ntmps164 aU (wp_seq (aA (sg (aH (cs := cs) rfl (St.start w) ?_)))); intro b1 W2 hb3 st4
 refine sg (aE (aB (wp_seq (aA ?_))))
 have hk9 := hc
 obtain ⟨v9_0, g9_0, rfl, hok9, h9_0, rfl⟩ := hk9
 refine rc st4 5 Ag.nil.put.put.put.put [1] [(1, I (szL l x.edges.length))] [qb 0 rfl 4, qc func274 rfl (fun W s b => szEdgeS_n W (h9_0.below s.below) l aC aC)] aD fun f10 W11 h10_ st12 hb13 => (aB (wp_seq (wp_seq (aA (sg (aG (h10_.at 1) (sg (bA rfl rfl (aB (aK rfl (fun h16p => ?_) (fun h16p => ?_)))))))))))
 ·have h16q := hU h16p aC
  refine wp_seq (aA (sg (aE (aB (wr (aM results164 rfl ?_))))))
  exact ⟨fI (gX aC).symm, st12.bare⟩
 have h16q := hX h16p aC
 refine wp_skip (wp_seq (aA (sg (aG (h10_.at 1) (sg (aF (v := I (szL l x.edges.length)) rfl (aB (wr (aM results164 rfl ?_)))))))))
 exact ⟨fI (by rw [oN (n := x.wt) aC]; try omega), st12.bare⟩
theorem szEntryS_n {v : Value} {xs : List Entry} {fp : List Nat} (h : Sl w v xs fp) (l : Int) (hl : 0 ≤ l) (hl2 : l ≤ 1048576) :
  Calls prog 354 #[v, I l] w fun e w' => e = .returned (I (szL l xs.length)) ∧ St w w' [] := by have zq1 := @func354; have zq2 := @ntmps354; have zq3 := @results354; exact tq1_
theorem szTaskS_n {v : Value} {xs : List Task} {fp : List Nat} (h : Sl w v xs fp) (l : Int) (hl : 0 ≤ l) (hl2 : l ≤ 1048576) :
  Calls prog 397 #[v, I l] w fun e w' => e = .returned (I (szL l xs.length)) ∧ St w w' [] := by have zq1 := @func397; have zq2 := @ntmps397; have zq3 := @results397; exact tq1_
theorem szRun_n {x : Run} (hc : Shape.C w cs x fp) (l : Int) (hl : 0 ≤ l) (hl2 : l ≤ 1048576) :
  Calls prog 355 #[.agg cs.toArray, I l] w (rI_ (szL l x.wt) w) := by
 have hwt : x.wt = x.plan.wt + x.tasks.length := rfl
 refine bC func355 rfl ntmps355 aU (wp_seq (aA (sg (aH (cs := cs) rfl (St.start w) ?_)))); intro b1 W2 hb3 st4
 refine sg (aE (aB (wp_seq (aA ?_))))
 have hk9 := hc
 obtain ⟨v9_0, v9_1, g9_0, g9_1, rfl, hok9, h9_0, h9_1, rfl⟩ := hk9
 refine rc st4 5 Ag.nil.put.put.put.put [1] [(1, I (szL l x.plan.wt))] [qb 0 rfl 1, qc func164 rfl (fun W s b => szPlan_n W (show Shape.C _ [I x.plan.prio, I x.plan.most, I x.plan.wait, I x.plan.tasks, v9_0] x.plan _ from ⟨_, _, rfl, eQ, (h9_0.below s.below), rfl⟩) l aC aC)] aD fun f10 W11 h10_ st12 hb13 => (aB (wp_seq (wp_seq (aA (sg (aG (h10_.at 1) (sg (bA rfl rfl (aB (aK rfl (fun h16p => ?_) (fun h16p => ?_)))))))))))
 ·have h16q := hU h16p aC
  refine wp_seq (aA (sg (aE (aB (wr (aM results355 rfl ?_))))))
  exact ⟨fI (gX aC).symm, st12.bare⟩
 have h16q := hX h16p aC
 refine wp_skip (wp_seq (aA (rc st12 5 h10_.put.put [1] [(1, I (szL (szL l x.plan.wt) x.tasks.length))] [qb 0 rfl 7, qc func397 rfl (fun W s b => szTaskS_n W (h9_1.below s.below) (szL l x.plan.wt) aC aC)] aD fun f20 W21 h20_ st22 hb23 => (aB (wp_seq (wp_seq (aA (sg (aG (h20_.at 1) (sg (bA rfl rfl (aB (aK rfl (fun h26p => ?_) (fun h26p => ?_))))))))))))))
 ·have h26q := hU h26p aC
  refine wp_seq (aA (sg (aE (aB (wr (aM results355 rfl ?_))))))
  exact ⟨fI (gX aC).symm, st22.bare⟩
 have h26q := hX h26p aC
 refine wp_skip (wp_seq (aA (sg (aG (h20_.at 1) (sg (aF (v := I (szL (szL l x.plan.wt) x.tasks.length)) rfl (aB (wr (aM results355 rfl ?_)))))))))
 exact ⟨fI (by rw [oN (n := x.wt) aC]; try omega), st22.bare⟩
theorem szRunS_n {v : Value} {xs : List Run} {fp : List Nat} (h : Sl w v xs fp) (l : Int) (hl : 0 ≤ l) (hl2 : l ≤ 1048576) :
  Calls prog 254 #[v, I l] w (rI_ (szL l (wtL (fun y : Run => y.wt) xs)) w) := by
 have hcap := h.len_le
 have hwt : wtL (fun y : Run => y.wt) xs = xs.length + (xs.map (fun y : Run => y.wt)).sum := rfl
 refine bC func254 rfl ntmps254 aU (wp_seq (aA (sg (aE (aB (wp_seq (aA (rn (St.start w) 5 Ag.nil.put.put.put [1] [(1, I (l - (xs.length : Int)))] [ql h, qsb l (xs.length : Int)] aD fun f4 h4_ => (aB (wp_seq (wp_seq (aA ?_))))))))))))
 refine sg (aG (h4_.at 1) (sg (bA rfl rfl (aB (aK rfl (fun h7p => ?_) (fun h7p => ?_))))))
 ·refine wp_seq (aA (sg (aE (aB (wr (aM results254 rfl ?_))))))
  exact ⟨fI (gX aC).symm, (St.start w).bare⟩
 refine wp_skip (wp_seq (wp_seq (aA (sg (aE (aB (wp_block (aQ (fun (m : Nat) (f : Nat → Value) (W : World) => ∃ (k : Nat), k ≤ xs.length ∧ 0 ≤ l - (xs.length : Int) - (((xs.take k).map (fun y : Run => y.wt)).sum : Nat) ∧ m = xs.length - k ∧ Ag [(0, v), (1, I (l - (xs.length : Int) - (((xs.take k).map (fun y : Run => y.wt)).sum : Nat))), (5, I (k : Int))] f ∧ St w W ([])) (xs.length - 0) ?_ ?_))))))))
 ·exact ⟨0, Nat.zero_le _, (by simp; omega), rfl, (Ag.cons (h4_.at 0) (Ag.cons (Eq.trans (show _ = I (l - (xs.length : Int)) from (h4_.at 1)) (show I (l - (xs.length : Int)) = I (l - (xs.length : Int) - (((xs.take 0).map (fun y : Run => y.wt)).sum : Nat)) from congrArg I (by simp))) (Ag.cons rfl Ag.nil))), (St.start w)⟩
 intro m12 f13 W14 hJ15
 obtain ⟨k, hcd17_0, hcd17_1, rfl, hA17, st16⟩ := hJ15
 refine wp_seq (wp_seq (aA (rn st16 4 hA17 [] [(15, .bool (decide ((k : Int) < (xs.length : Int))))] [ql h, .o] aD fun f19 h19_ => (aB (aK (h19_.at 15) (fun h20p => ?_) (fun h20p => ?_))))))
 ·refine wp_skip (wp_seq (wp_block (wp_seq (aA ?_))))
  have hi51fab : k < xs.length := aC
  obtain ⟨b22, o22, cs22, f22, hp22, hr22, hc22, hm22⟩ := idx h (i := k) hi51fab
  refine rn st16 5 h19_ [] [(21, .agg cs22.toArray), (22, I (l - (xs.length : Int) - (((xs.take k).map (fun y : Run => y.wt)).sum : Nat)))] [qx hp22, qrw hr22 (Shape.len hc22)] aD fun f23 h23_ => ?_
  have hstep : ((xs.take (k + 1)).map (fun y : Run => y.wt)).sum = ((xs.take k).map (fun y : Run => y.wt)).sum + xs[k].wt := mS (fun y : Run => y.wt) xs k aC
  have hle := fH (fun y : Run => y.wt) xs (k + 1)
  refine rc st16 2 h23_ [1] [(1, I (szL (l - (xs.length : Int) - (((xs.take k).map (fun y : Run => y.wt)).sum : Nat)) ((xs[k]'hi51fab)).wt))] [qc (args := [.agg cs22.toArray, I (l - (xs.length : Int) - (((xs.take k).map (fun y : Run => y.wt)).sum : Nat))]) (v := I (szL (l - (xs.length : Int) - (((xs.take k).map (fun y : Run => y.wt)).sum : Nat)) ((xs[k]'hi51fab)).wt)) func355 rfl (fun W s b => szRun_n W (bG hc22 s.below) (l - (xs.length : Int) - (((xs.take k).map (fun y : Run => y.wt)).sum : Nat)) aC aC)] aD fun f25 W26 h25_ st27 hb28 => (aB (wp_seq (aA (sg (aG (h25_.at 1) (sg (bA rfl rfl (aB (aK rfl (fun h31p => ?_) (fun h31p => ?_))))))))))
  ·have h31q := hU h31p aC
   refine wp_seq (aA (sg (aE (aB (wr (aM results254 rfl ?_))))))
   exact ⟨fI (gX aC).symm, st27.bare⟩
  have h31q := hX h31p aC
  refine wp_skip (aA (rn st27 3 h25_.put.put [5] [(5, I ((k : Int) + 1))] [qad (k : Int) 1] aD fun f35 h35_ => (aB ?_)))
  exact ⟨_, xs.length - (k + 1), aC, rfl, k + 1, aC, aC, rfl, (Ag.cons (h35_.at 0) (Ag.cons (Eq.trans (show _ = I (szL (l - (xs.length : Int) - (((xs.take k).map (fun y : Run => y.wt)).sum : Nat)) ((xs[k]'hi51fab)).wt) from (h35_.at 1)) (show I (szL (l - (xs.length : Int) - (((xs.take k).map (fun y : Run => y.wt)).sum : Nat)) ((xs[k]'hi51fab)).wt) = I (l - (xs.length : Int) - (((xs.take (k + 1)).map (fun y : Run => y.wt)).sum : Nat)) from congrArg I aC)) (Ag.cons (h35_.at 5) Ag.nil))), st27⟩
 refine wp_exit (wp_seq (aA (sg (aG (h19_.at 1) (sg (aF (v := I (l - (xs.length : Int) - (((xs.take k).map (fun y : Run => y.wt)).sum : Nat))) rfl (aB (wr (aM results254 rfl ?_)))))))))
 obtain rfl : k = xs.length := by omega
 rw [take_length] at *
 exact ⟨fI (by rw [oN aC]; try omega), st16.bare⟩
theorem szEntrySS_n {v : Value} {xs : List (List Entry)} {fp : List Nat} (h : Sl w v xs fp) (l : Int) (hl : 0 ≤ l) (hl2 : l ≤ 1048576) :
  Calls prog 253 #[v, I l] w (rI_ (szL l (wtL (fun y : List Entry => y.length) xs)) w) := by
 have hcap := h.len_le
 have hwt : wtL (fun y : List Entry => y.length) xs = xs.length + (xs.map (fun y : List Entry => y.length)).sum := rfl
 refine bC func253 rfl ntmps253 aU (wp_seq (aA (sg (aE (aB (wp_seq (aA (rn (St.start w) 5 Ag.nil.put.put.put [1] [(1, I (l - (xs.length : Int)))] [ql h, qsb l (xs.length : Int)] aD fun f4 h4_ => (aB (wp_seq (wp_seq (aA ?_))))))))))))
 refine sg (aG (h4_.at 1) (sg (bA rfl rfl (aB (aK rfl (fun h7p => ?_) (fun h7p => ?_))))))
 ·refine wp_seq (aA (sg (aE (aB (wr (aM results253 rfl ?_))))))
  exact ⟨fI (gX aC).symm, (St.start w).bare⟩
 refine wp_skip (wp_seq (wp_seq (aA (sg (aE (aB (wp_block (aQ (fun (m : Nat) (f : Nat → Value) (W : World) => ∃ (k : Nat), k ≤ xs.length ∧ 0 ≤ l - (xs.length : Int) - (((xs.take k).map (fun y : List Entry => y.length)).sum : Nat) ∧ m = xs.length - k ∧ Ag [(0, v), (1, I (l - (xs.length : Int) - (((xs.take k).map (fun y : List Entry => y.length)).sum : Nat))), (5, I (k : Int))] f ∧ St w W ([])) (xs.length - 0) ?_ ?_))))))))
 ·exact ⟨0, Nat.zero_le _, (by simp; omega), rfl, (Ag.cons (h4_.at 0) (Ag.cons (Eq.trans (show _ = I (l - (xs.length : Int)) from (h4_.at 1)) (show I (l - (xs.length : Int)) = I (l - (xs.length : Int) - (((xs.take 0).map (fun y : List Entry => y.length)).sum : Nat)) from congrArg I (by simp))) (Ag.cons rfl Ag.nil))), (St.start w)⟩
 intro m12 f13 W14 hJ15
 obtain ⟨k, hcd17_0, hcd17_1, rfl, hA17, st16⟩ := hJ15
 refine wp_seq (wp_seq (aA (rn st16 4 hA17 [] [(15, .bool (decide ((k : Int) < (xs.length : Int))))] [ql h, .o] aD fun f19 h19_ => (aB (aK (h19_.at 15) (fun h20p => ?_) (fun h20p => ?_))))))
 ·refine wp_skip (wp_seq (wp_block (wp_seq (aA ?_))))
  have hi51fab : k < xs.length := aC
  obtain ⟨b22, o22, cs22, f22, hp22, hr22, hc22, hm22⟩ := idx h (i := k) hi51fab
  have hk22 := hc22
  obtain ⟨v23, rfl, h24⟩ := hk22
  refine rn st16 5 h19_ [] [(21, v23), (22, I (l - (xs.length : Int) - (((xs.take k).map (fun y : List Entry => y.length)).sum : Nat)))] [qx hp22, qr hr22 0] aD fun f25 h25_ => ?_
  have hstep : ((xs.take (k + 1)).map (fun y : List Entry => y.length)).sum = ((xs.take k).map (fun y : List Entry => y.length)).sum + xs[k].length := mS (fun y : List Entry => y.length) xs k aC
  have hle := fH (fun y : List Entry => y.length) xs (k + 1)
  refine rc st16 2 h25_ [1] [(1, I (szL (l - (xs.length : Int) - (((xs.take k).map (fun y : List Entry => y.length)).sum : Nat)) ((xs[k]'hi51fab)).length))] [qc (args := [v23, I (l - (xs.length : Int) - (((xs.take k).map (fun y : List Entry => y.length)).sum : Nat))]) (v := I (szL (l - (xs.length : Int) - (((xs.take k).map (fun y : List Entry => y.length)).sum : Nat)) ((xs[k]'hi51fab)).length)) func354 rfl (fun W s b => szEntryS_n W (h24.below s.below) (l - (xs.length : Int) - (((xs.take k).map (fun y : List Entry => y.length)).sum : Nat)) aC aC)] aD fun f27 W28 h27_ st29 hb30 => (aB (wp_seq (aA (sg (aG (h27_.at 1) (sg (bA rfl rfl (aB (aK rfl (fun h33p => ?_) (fun h33p => ?_))))))))))
  ·have h33q := hU h33p aC
   refine wp_seq (aA (sg (aE (aB (wr (aM results253 rfl ?_))))))
   exact ⟨fI (gX aC).symm, st29.bare⟩
  have h33q := hX h33p aC
  refine wp_skip (aA (rn st29 3 h27_.put.put [5] [(5, I ((k : Int) + 1))] [qad (k : Int) 1] aD fun f37 h37_ => (aB ?_)))
  exact ⟨_, xs.length - (k + 1), aC, rfl, k + 1, aC, aC, rfl, (Ag.cons (h37_.at 0) (Ag.cons (Eq.trans (show _ = I (szL (l - (xs.length : Int) - (((xs.take k).map (fun y : List Entry => y.length)).sum : Nat)) ((xs[k]'hi51fab)).length) from (h37_.at 1)) (show I (szL (l - (xs.length : Int) - (((xs.take k).map (fun y : List Entry => y.length)).sum : Nat)) ((xs[k]'hi51fab)).length) = I (l - (xs.length : Int) - (((xs.take (k + 1)).map (fun y : List Entry => y.length)).sum : Nat)) from congrArg I aC)) (Ag.cons (h37_.at 5) Ag.nil))), st29⟩
 refine wp_exit (wp_seq (aA (sg (aG (h19_.at 1) (sg (aF (v := I (l - (xs.length : Int) - (((xs.take k).map (fun y : List Entry => y.length)).sum : Nat))) rfl (aB (wr (aM results253 rfl ?_)))))))))
 obtain rfl : k = xs.length := by omega
 rw [take_length] at *
 exact ⟨fI (by rw [oN aC]; try omega), st16.bare⟩
theorem szYard_n {x : Yard} (hc : Shape.C w cs x fp) (l : Int) (hl : 0 ≤ l) (hl2 : l ≤ 1048576) :
  Calls prog 136 #[.agg cs.toArray, I l] w (rI_ (szL l x.wt) w) := by
 have hwt : x.wt = (wtL (fun y : List Entry => y.length) x.shelf) + (wtL (fun y : Run => y.wt) x.runs) := rfl
 refine bC func136 rfl ntmps136 aU (wp_seq (aA (sg (aH (cs := cs) rfl (St.start w) ?_)))); intro b1 W2 hb3 st4
 refine sg (aE (aB (wp_seq (aA ?_))))
 have hk9 := hc
 obtain ⟨v9_0, v9_1, g9_0, g9_1, rfl, hok9, h9_0, h9_1, rfl⟩ := hk9
 refine rc st4 5 Ag.nil.put.put.put.put [1] [(1, I (szL l (wtL (fun y : List Entry => y.length) x.shelf)))] [qb 0 rfl 2, qc func253 rfl (fun W s b => szEntrySS_n W (h9_0.below s.below) l aC aC)] aD fun f10 W11 h10_ st12 hb13 => (aB (wp_seq (wp_seq (aA (sg (aG (h10_.at 1) (sg (bA rfl rfl (aB (aK rfl (fun h16p => ?_) (fun h16p => ?_)))))))))))
 ·have h16q := hU h16p aC
  refine wp_seq (aA (sg (aE (aB (wr (aM results136 rfl ?_))))))
  exact ⟨fI (gX aC).symm, st12.bare⟩
 have h16q := hX h16p aC
 refine wp_skip (wp_seq (aA (rc st12 5 h10_.put.put [1] [(1, I (szL (szL l (wtL (fun y : List Entry => y.length) x.shelf)) (wtL (fun y : Run => y.wt) x.runs)))] [qb 0 rfl 3, qc func254 rfl (fun W s b => szRunS_n W (h9_1.below s.below) (szL l (wtL (fun y : List Entry => y.length) x.shelf)) aC aC)] aD fun f20 W21 h20_ st22 hb23 => (aB (wp_seq (wp_seq (aA (sg (aG (h20_.at 1) (sg (bA rfl rfl (aB (aK rfl (fun h26p => ?_) (fun h26p => ?_))))))))))))))
 ·have h26q := hU h26p aC
  refine wp_seq (aA (sg (aE (aB (wr (aM results136 rfl ?_))))))
  exact ⟨fI (gX aC).symm, st22.bare⟩
 have h26q := hX h26p aC
 refine wp_skip (wp_seq (aA (sg (aG (h20_.at 1) (sg (aF (v := I (szL (szL l (wtL (fun y : List Entry => y.length) x.shelf)) (wtL (fun y : Run => y.wt) x.runs))) rfl (aB (wr (aM results136 rfl ?_)))))))))
 exact ⟨fI (by rw [oN (n := x.wt) aC]; try omega), st22.bare⟩
theorem szWaitS_n {v : Value} {xs : List Wait} {fp : List Nat} (h : Sl w v xs fp) (l : Int) (hl : 0 ≤ l) (hl2 : l ≤ 1048576) :
  Calls prog 137 #[v, I l] w fun e w' => e = .returned (I (szL l xs.length)) ∧ St w w' [] := by have zq1 := @func137; have zq2 := @ntmps137; have zq3 := @results137; exact tq1_
theorem szFile_n {x : File} (hc : Shape.C w cs x fp) (l : Int) (hl : 0 ≤ l) (hl2 : l ≤ 1048576) :
  Calls prog 239 #[.agg cs.toArray, I l] w (rI_ (szL l x.wt) w) := by
 have hwt : x.wt = x.name.size + x.data.size := rfl
 refine bC func239 rfl ntmps239 aU (wp_seq (aA (sg (aH (cs := cs) rfl (St.start w) ?_)))); intro b1 W2 hb3 st4
 refine sg (aE (aB (wp_seq (aA ?_))))
 have hk9 := hc
 obtain ⟨he9, rfl, hok9⟩ := hk9
 have he9 : _ = [.string x.name, .string x.data, I x.safe] := he9
 subst he9
 refine rn st4 3 Ag.nil.put.put.put.put [] [(5, I l), (7, .string x.name)] [qb 0 rfl 0] aD fun f10 h10_ => (sg (pS underlying9 (h10_.at 7) (sg (tP (h10_.at 5) rfl (by (simp only [File.ok, maxLen, I64] at *; omega)) (sg (aF (v := I (l - (x.name.size : Int))) rfl (aB (wp_seq (wp_seq (aA (sg (aG (v := I (l - (x.name.size : Int))) rfl (sg (bA rfl rfl (aB (aK rfl (fun h15p => ?_) (fun h15p => ?_)))))))))))))))))
 ·refine wp_seq (aA (sg (aE (aB (wr (aM results239 rfl ?_))))))
  exact ⟨fI (gX aC).symm, st4.bare⟩
 refine wp_skip (wp_seq (aA (rn st4 3 h10_.put.put.put.put.put [] [(12, I (l - (x.name.size : Int))), (14, .string x.data)] [qb 0 rfl 1] aD fun f19 h19_ => (sg (pS underlying9 (h19_.at 14) (sg (tP (h19_.at 12) rfl (by (simp only [File.ok, maxLen, I64] at *; omega)) (sg (aF (v := I ((l - (x.name.size : Int)) - (x.data.size : Int))) rfl (aB (wp_seq (wp_seq (aA (sg (aG (v := I ((l - (x.name.size : Int)) - (x.data.size : Int))) rfl ?_)))))))))))))))
 refine sg (bA rfl rfl (aB (aK rfl (fun h24p => ?_) (fun h24p => ?_))))
 ·refine wp_seq (aA (sg (aE (aB (wr (aM results239 rfl ?_))))))
  exact ⟨fI (gX aC).symm, st4.bare⟩
 refine wp_skip (wp_seq (aA (sg (aG (v := I ((l - (x.name.size : Int)) - (x.data.size : Int))) rfl (sg (aF (v := I ((l - (x.name.size : Int)) - (x.data.size : Int))) rfl (aB (wr (aM results239 rfl ?_)))))))))
 exact ⟨fI (by rw [oN (n := x.wt) aC]; try omega), st4.bare⟩
theorem szFileS_n {v : Value} {xs : List File} {fp : List Nat} (h : Sl w v xs fp) (l : Int) (hl : 0 ≤ l) (hl2 : l ≤ 1048576) :
  Calls prog 124 #[v, I l] w (rI_ (szL l (wtL (fun y : File => y.wt) xs)) w) := by
 have hcap := h.len_le
 have hwt : wtL (fun y : File => y.wt) xs = xs.length + (xs.map (fun y : File => y.wt)).sum := rfl
 refine bC func124 rfl ntmps124 aU (wp_seq (aA (sg (aE (aB (wp_seq (aA (rn (St.start w) 5 Ag.nil.put.put.put [1] [(1, I (l - (xs.length : Int)))] [ql h, qsb l (xs.length : Int)] aD fun f4 h4_ => (aB (wp_seq (wp_seq (aA ?_))))))))))))
 refine sg (aG (h4_.at 1) (sg (bA rfl rfl (aB (aK rfl (fun h7p => ?_) (fun h7p => ?_))))))
 ·refine wp_seq (aA (sg (aE (aB (wr (aM results124 rfl ?_))))))
  exact ⟨fI (gX aC).symm, (St.start w).bare⟩
 refine wp_skip (wp_seq (wp_seq (aA (sg (aE (aB (wp_block (aQ (fun (m : Nat) (f : Nat → Value) (W : World) => ∃ (k : Nat), k ≤ xs.length ∧ 0 ≤ l - (xs.length : Int) - (((xs.take k).map (fun y : File => y.wt)).sum : Nat) ∧ m = xs.length - k ∧ Ag [(0, v), (1, I (l - (xs.length : Int) - (((xs.take k).map (fun y : File => y.wt)).sum : Nat))), (5, I (k : Int))] f ∧ St w W ([])) (xs.length - 0) ?_ ?_))))))))
 ·exact ⟨0, Nat.zero_le _, (by simp; omega), rfl, (Ag.cons (h4_.at 0) (Ag.cons (Eq.trans (show _ = I (l - (xs.length : Int)) from (h4_.at 1)) (show I (l - (xs.length : Int)) = I (l - (xs.length : Int) - (((xs.take 0).map (fun y : File => y.wt)).sum : Nat)) from congrArg I (by simp))) (Ag.cons rfl Ag.nil))), (St.start w)⟩
 intro m12 f13 W14 hJ15
 obtain ⟨k, hcd17_0, hcd17_1, rfl, hA17, st16⟩ := hJ15
 refine wp_seq (wp_seq (aA (rn st16 4 hA17 [] [(15, .bool (decide ((k : Int) < (xs.length : Int))))] [ql h, .o] aD fun f19 h19_ => (aB (aK (h19_.at 15) (fun h20p => ?_) (fun h20p => ?_))))))
 ·refine wp_skip (wp_seq (wp_block (wp_seq (aA ?_))))
  have hi51fab : k < xs.length := aC
  obtain ⟨b22, o22, cs22, f22, hp22, hr22, hc22, hm22⟩ := idx h (i := k) hi51fab
  refine rn st16 5 h19_ [] [(21, .agg cs22.toArray), (22, I (l - (xs.length : Int) - (((xs.take k).map (fun y : File => y.wt)).sum : Nat)))] [qx hp22, qrw hr22 (Shape.len hc22)] aD fun f23 h23_ => ?_
  have hstep : ((xs.take (k + 1)).map (fun y : File => y.wt)).sum = ((xs.take k).map (fun y : File => y.wt)).sum + xs[k].wt := mS (fun y : File => y.wt) xs k aC
  have hle := fH (fun y : File => y.wt) xs (k + 1)
  refine rc st16 2 h23_ [1] [(1, I (szL (l - (xs.length : Int) - (((xs.take k).map (fun y : File => y.wt)).sum : Nat)) ((xs[k]'hi51fab)).wt))] [qc (args := [.agg cs22.toArray, I (l - (xs.length : Int) - (((xs.take k).map (fun y : File => y.wt)).sum : Nat))]) (v := I (szL (l - (xs.length : Int) - (((xs.take k).map (fun y : File => y.wt)).sum : Nat)) ((xs[k]'hi51fab)).wt)) func239 rfl (fun W s b => szFile_n W hc22 (l - (xs.length : Int) - (((xs.take k).map (fun y : File => y.wt)).sum : Nat)) aC aC)] aD fun f25 W26 h25_ st27 hb28 => (aB (wp_seq (aA (sg (aG (h25_.at 1) (sg (bA rfl rfl (aB (aK rfl (fun h31p => ?_) (fun h31p => ?_))))))))))
  ·have h31q := hU h31p aC
   refine wp_seq (aA (sg (aE (aB (wr (aM results124 rfl ?_))))))
   exact ⟨fI (gX aC).symm, st27.bare⟩
  have h31q := hX h31p aC
  refine wp_skip (aA (rn st27 3 h25_.put.put [5] [(5, I ((k : Int) + 1))] [qad (k : Int) 1] aD fun f35 h35_ => (aB ?_)))
  exact ⟨_, xs.length - (k + 1), aC, rfl, k + 1, aC, aC, rfl, (Ag.cons (h35_.at 0) (Ag.cons (Eq.trans (show _ = I (szL (l - (xs.length : Int) - (((xs.take k).map (fun y : File => y.wt)).sum : Nat)) ((xs[k]'hi51fab)).wt) from (h35_.at 1)) (show I (szL (l - (xs.length : Int) - (((xs.take k).map (fun y : File => y.wt)).sum : Nat)) ((xs[k]'hi51fab)).wt) = I (l - (xs.length : Int) - (((xs.take (k + 1)).map (fun y : File => y.wt)).sum : Nat)) from congrArg I aC)) (Ag.cons (h35_.at 5) Ag.nil))), st27⟩
 refine wp_exit (wp_seq (aA (sg (aG (h19_.at 1) (sg (aF (v := I (l - (xs.length : Int) - (((xs.take k).map (fun y : File => y.wt)).sum : Nat))) rfl (aB (wr (aM results124 rfl ?_)))))))))
 obtain rfl : k = xs.length := by omega
 rw [take_length] at *
 exact ⟨fI (by rw [oN aC]; try omega), st16.bare⟩
theorem szDisk_n {x : Disk} (hc : Shape.C w cs x fp) (l : Int) (hl : 0 ≤ l) (hl2 : l ≤ 1048576) :
  Calls prog 33 #[.agg cs.toArray, I l] w (rI_ (szL l x.wt) w) := by
 have hwt : x.wt = (wtL (fun y : File => y.wt) x.files) := rfl
 refine bC func33 rfl ntmps33 aU (wp_seq (aA (sg (aH (cs := cs) rfl (St.start w) ?_)))); intro b1 W2 hb3 st4
 refine sg (aE (aB (wp_seq (aA ?_))))
 have hk9 := hc
 obtain ⟨v9_0, g9_0, rfl, hok9, h9_0, rfl⟩ := hk9
 refine rc st4 5 Ag.nil.put.put.put.put [1] [(1, I (szL l (wtL (fun y : File => y.wt) x.files)))] [qb 0 rfl 0, qc func124 rfl (fun W s b => szFileS_n W (h9_0.below s.below) l aC aC)] aD fun f10 W11 h10_ st12 hb13 => (aB (wp_seq (wp_seq (aA (sg (aG (h10_.at 1) (sg (bA rfl rfl (aB (aK rfl (fun h16p => ?_) (fun h16p => ?_)))))))))))
 ·have h16q := hU h16p aC
  refine wp_seq (aA (sg (aE (aB (wr (aM results33 rfl ?_))))))
  exact ⟨fI (gX aC).symm, st12.bare⟩
 have h16q := hX h16p aC
 refine wp_skip (wp_seq (aA (sg (aG (h10_.at 1) (sg (aF (v := I (szL l (wtL (fun y : File => y.wt) x.files))) rfl (aB (wr (aM results33 rfl ?_)))))))))
 exact ⟨fI (by rw [oN (n := x.wt) aC]; try omega), st12.bare⟩
theorem szEngine_n {x : Engine} (hc : Shape.C w cs x fp) (l : Int) (hl : 0 ≤ l) (hl2 : l ≤ 1048576) :
  Calls prog 41 #[.agg cs.toArray, I l] w (rI_ (szL l x.wt) w) := by
 have hwt : x.wt = x.yard.wt + x.disk.wt + x.waits.length := rfl
 refine bC func41 rfl ntmps41 aU (wp_seq (aA (sg (aH (cs := cs) rfl (St.start w) ?_)))); intro b1 W2 hb3 st4
 refine sg (aE (aB (wp_seq (aA ?_))))
 have hk9 := hc
 obtain ⟨v9_0, v9_1, v9_2, v9_3, g9_0, g9_1, g9_2, g9_3, rfl, hok9, h9_0, h9_1, h9_2, h9_3, rfl⟩ := hk9
 refine rc st4 5 Ag.nil.put.put.put.put [1] [(1, I (szL l x.yard.wt))] [qb 0 rfl 0, qc func136 rfl (fun W s b => szYard_n W (show Shape.C _ [I x.yard.now, I x.yard.seq, v9_0, v9_1] x.yard _ from ⟨_, _, _, _, rfl, eQ, (h9_0.below s.below), (h9_1.below s.below), rfl⟩) l aC aC)] aD fun f10 W11 h10_ st12 hb13 => (aB (wp_seq (wp_seq (aA (sg (aG (h10_.at 1) (sg (bA rfl rfl (aB (aK rfl (fun h16p => ?_) (fun h16p => ?_)))))))))))
 ·have h16q := hU h16p aC
  refine wp_seq (aA (sg (aE (aB (wr (aM results41 rfl ?_))))))
  exact ⟨fI (gX aC).symm, st12.bare⟩
 have h16q := hX h16p aC
 refine wp_skip (wp_seq (aA (rc st12 5 h10_.put.put [1] [(1, I (szL (szL l x.yard.wt) x.disk.wt))] [qb 0 rfl 4, qc func33 rfl (fun W s b => szDisk_n W (show Shape.C _ [v9_2] x.disk _ from ⟨_, _, rfl, eQ, (h9_2.below s.below), rfl⟩) (szL l x.yard.wt) aC aC)] aD fun f20 W21 h20_ st22 hb23 => (aB (wp_seq (wp_seq (aA (sg (aG (h20_.at 1) (sg (bA rfl rfl (aB (aK rfl (fun h26p => ?_) (fun h26p => ?_))))))))))))))
 ·have h26q := hU h26p aC
  refine wp_seq (aA (sg (aE (aB (wr (aM results41 rfl ?_))))))
  exact ⟨fI (gX aC).symm, st22.bare⟩
 have h26q := hX h26p aC
 refine wp_skip (wp_seq (aA (rc st22 5 h20_.put.put [1] [(1, I (szL (szL (szL l x.yard.wt) x.disk.wt) x.waits.length))] [qb 0 rfl 7, qc func137 rfl (fun W s b => szWaitS_n W (h9_3.below s.below) (szL (szL l x.yard.wt) x.disk.wt) aC aC)] aD fun f30 W31 h30_ st32 hb33 => (aB (wp_seq (wp_seq (aA (sg (aG (h30_.at 1) (sg (bA rfl rfl (aB (aK rfl (fun h36p => ?_) (fun h36p => ?_))))))))))))))
 ·have h36q := hU h36p aC
  refine wp_seq (aA (sg (aE (aB (wr (aM results41 rfl ?_))))))
  exact ⟨fI (gX aC).symm, st32.bare⟩
 have h36q := hX h36p aC
 refine wp_skip (wp_seq (aA (sg (aG (h30_.at 1) (sg (aF (v := I (szL (szL (szL l x.yard.wt) x.disk.wt) x.waits.length)) rfl (aB (wr (aM results41 rfl ?_)))))))))
 exact ⟨fI (by rw [oN (n := x.wt) aC]; try omega), st32.bare⟩
theorem Edge_ext {x y : Edge} (h0 : x.from_ = y.from_) (h1 : x.to_ = y.to_) : x = y := by
 cases x; cases y; simp only at *; subst_vars; rfl
theorem eqEdge_n {x y : Edge} {cs ds : List Value} {fp gp : List Nat} (hc : Shape.C w cs x fp) (hd : Shape.C w ds y gp) :
  Calls prog 368 #[.agg cs.toArray, .agg ds.toArray] w (rB_ (eqB x y) w) := by
 refine bC func368 rfl ntmps368 aU (wp_seq (aA (sg (aH (cs := cs) rfl (St.start w) ?_)))); intro b1 W2 hb3 st4
 refine sg (aH (cs := ds) rfl st4 ?_); intro b6 W7 hb8 st9
 refine sg (aE (aB (wp_seq (wp_seq (aA ?_)))))
 have hk14 := hc
 obtain ⟨he14, rfl, hok14⟩ := hk14
 have he14 : _ = [I x.from_, I x.to_] := he14
 subst he14
 have hk15 := hd
 obtain ⟨he15, rfl, hok15⟩ := hk15
 have he15 : _ = [I y.from_, I y.to_] := he15
 subst he15
 refine rn st9 5 Ag.nil.put.put.put.put.put [] [(9, .bool (!decide (x.from_ = y.from_)))] [qb 1 rfl 0, qb 0 rfl 0, .o] aD fun f16 h16_ => (aB (bE (h16_.at 9) (fun h17p => ?_) (fun h17p => ?_)))
 ·have h17 := fL h17p
  refine wp_seq (aA (sg (aE (aB (wr (aM results368 rfl ?_))))))
  exact ⟨fB (cT (fun e => by subst e; first | exact h17p rfl | exact absurd (aO h17) (by rw [bZ rfl]; decide) | exact absurd (aO h17) (by simp))).symm, st9.bare⟩
 have h17 := fM h17p
 refine wp_skip (wp_seq (wp_seq (aA (rn st9 5 h16_ [] [(14, .bool (!decide (x.to_ = y.to_)))] [qb 1 rfl 1, qb 0 rfl 1, .o] aD fun f21 h21_ => (aB (bE (h21_.at 14) (fun h22p => ?_) (fun h22p => ?_)))))))
 ·have h22 := fL h22p
  refine wp_seq (aA (sg (aE (aB (wr (aM results368 rfl ?_))))))
  exact ⟨fB (cT (fun e => by subst e; first | exact h22p rfl | exact absurd (aO h22) (by rw [bZ rfl]; decide) | exact absurd (aO h22) (by simp))).symm, st9.bare⟩
 have h22 := fM h22p
 refine wp_skip (wp_seq (aA (sg (aE (aB (wr (aM results368 rfl ?_)))))))
 exact ⟨fB (bZ (Edge_ext h17p h22p)).symm, st9.bare⟩
theorem tq2_ {P : Prop} (h : P := by
 have hcap := h.len_le
 have hcap2 := g.len_le
 refine bC zq1 rfl zq2 aU (wp_seq (aA (sg (aE (aB (wp_seq (wp_seq (aA (rn (St.start w) 5 Ag.nil.put.put.put [] [(10, .bool (!decide ((xs.length : Int) = (ys.length : Int))))] [ql h, ql g, .o] aD fun f4 h4_ => (aB (bE (h4_.at 10) (fun h5p => ?_) (fun h5p => ?_))))))))))))
 ·refine wp_seq (aA (sg (aE (aB (wr (aM zq3 rfl ?_))))))
  exact ⟨fB (cT (fun e => h5p (by rw [e]))).symm, (St.start w).bare⟩
 refine wp_skip (wp_seq (wp_seq (aA (sg (aE (aB (wp_block (aQ (fun (m : Nat) (f : Nat → Value) (W : World) => ∃ (k : Nat), k ≤ xs.length ∧ xs.take k = ys.take k ∧ m = xs.length - k ∧ Ag [(0, v), (1, u), (5, I (k : Int))] f ∧ St w W ([])) (xs.length - 0) ?_ ?_))))))))
 ·exact ⟨0, Nat.zero_le _, rfl, rfl, (h4_.put.to aD), (St.start w)⟩
 intro m10 f11 W12 hJ13
 obtain ⟨k, hk, htk, rfl, hA15, st14⟩ := hJ13
 refine wp_seq (wp_seq (aA (rn st14 4 hA15 [] [(14, .bool (decide ((k : Int) < (xs.length : Int))))] [ql h, .o] aD fun f17 h17_ => (aB (aK (h17_.at 14) (fun h18p => ?_) (fun h18p => ?_))))))
 ·refine wp_skip (wp_seq (wp_block (wp_seq ?_)))
  have hi51fab : k < xs.length := aC
  obtain ⟨b20, o20, cs20, f20, hp20, hr20, hc20, hm20⟩ := idx h (i := k) hi51fab
  have hi28e79 : k < ys.length := aC
  obtain ⟨b21, o21, cs21, f21, hp21, hr21, hc21, hm21⟩ := idx g (i := k) hi28e79
  refine rd st14 h17_ [] [(26, .bool (!(eqB (xs[k]'hi51fab) (ys[k]'hi28e79))))] [qx hp20, qrw hr20 (Shape.len hc20), qx hp21, qrw hr21 (Shape.len hc21), qc (args := [.agg cs20.toArray, .agg cs21.toArray]) (v := .bool (eqB (xs[k]'hi51fab) (ys[k]'hi28e79))) zq4 rfl (fun W s b => zq5 W hc20 hc21), .o] aD aD fun f22 W23 h22_ st24 hb25 => (cF (h22_.at 26) (fun h26 => ?_) (fun h26 => ?_))
  ·refine wp_seq (aA (sg (aE (aB (wr (aM zq3 rfl ?_))))))
   have hne : ¬ xs[k] = ys[k]'(by omega) := fun e => absurd (aO h26) (by rw [bZ e]; decide)
   exact ⟨fB (cT (fun e => hne (by subst e; rfl))).symm, st24.bare⟩
  refine wp_skip (aA (rn st24 3 h22_ [5] [(5, I ((k : Int) + 1))] [qad (k : Int) 1] aD fun f30 h30_ => (aB ?_)))
  exact ⟨_, xs.length - (k + 1), aC, rfl, k + 1, aC, (lO aC aC htk (eqB_iff.1 (bY h26))), rfl, (h30_.to aD), st24⟩
 refine wp_exit (wp_seq (aA (sg (aE (aB (wr (aM zq3 rfl ?_)))))))
 obtain rfl : k = xs.length := by omega
 rw [take_length, take_of_length_le aC] at htk
 exact ⟨fB (bZ htk).symm, st14.bare⟩) : P := h
theorem eqEdgeS_n {v u : Value} {xs ys : List Edge} {fp gp : List Nat} (h : Sl w v xs fp) (g : Sl w u ys gp) :
  Calls prog 276 #[v, u] w fun e w' => e = .returned (.bool (eqB xs ys)) ∧ St w w' [] := by have zq1 := @func276; have zq2 := @ntmps276; have zq3 := @results276; have zq4 := @func368; have zq5 := @eqEdge_n; exact tq2_
theorem Plan_ext {x y : Plan} (h0 : x.prio = y.prio) (h1 : x.most = y.most) (h2 : x.wait = y.wait) (h3 : x.tasks = y.tasks) (h4 : x.edges = y.edges) : x = y := by
 cases x; cases y; simp only at *; subst_vars; rfl
theorem eqPlan_n {x y : Plan} {cs ds : List Value} {fp gp : List Nat} (hc : Shape.C w cs x fp) (hd : Shape.C w ds y gp) :
  Calls prog 166 #[.agg cs.toArray, .agg ds.toArray] w (rB_ (eqB x y) w) := by
 refine bC func166 rfl ntmps166 aU (wp_seq (aA (sg (aH (cs := cs) rfl (St.start w) ?_)))); intro b1 W2 hb3 st4
 refine sg (aH (cs := ds) rfl st4 ?_); intro b6 W7 hb8 st9
 refine sg (aE (aB (wp_seq (wp_seq (aA ?_)))))
 have hk14 := hc
 obtain ⟨v14_0, g14_0, rfl, hok14, h14_0, rfl⟩ := hk14
 have hk15 := hd
 obtain ⟨v15_0, g15_0, rfl, hok15, h15_0, rfl⟩ := hk15
 refine rn st9 5 Ag.nil.put.put.put.put.put [] [(9, .bool (!decide (x.prio = y.prio)))] [qb 1 rfl 0, qb 0 rfl 0, .o] aD fun f16 h16_ => (aB (bE (h16_.at 9) (fun h17p => ?_) (fun h17p => ?_)))
 ·have h17 := fL h17p
  refine wp_seq (aA (sg (aE (aB (wr (aM results166 rfl ?_))))))
  exact ⟨fB (cT (fun e => by subst e; first | exact h17p rfl | exact absurd (aO h17) (by rw [bZ rfl]; decide) | exact absurd (aO h17) (by simp))).symm, st9.bare⟩
 have h17 := fM h17p
 refine wp_skip (wp_seq (wp_seq (aA (rn st9 5 h16_ [] [(14, .bool (!decide (x.most = y.most)))] [qb 1 rfl 1, qb 0 rfl 1, .o] aD fun f21 h21_ => (aB (bE (h21_.at 14) (fun h22p => ?_) (fun h22p => ?_)))))))
 ·have h22 := fL h22p
  refine wp_seq (aA (sg (aE (aB (wr (aM results166 rfl ?_))))))
  exact ⟨fB (cT (fun e => by subst e; first | exact h22p rfl | exact absurd (aO h22) (by rw [bZ rfl]; decide) | exact absurd (aO h22) (by simp))).symm, st9.bare⟩
 have h22 := fM h22p
 refine wp_skip (wp_seq (wp_seq (aA (rn st9 5 h21_ [] [(19, .bool (!decide (x.wait = y.wait)))] [qb 1 rfl 2, qb 0 rfl 2, .o] aD fun f26 h26_ => (aB (bE (h26_.at 19) (fun h27p => ?_) (fun h27p => ?_)))))))
 ·have h27 := fL h27p
  refine wp_seq (aA (sg (aE (aB (wr (aM results166 rfl ?_))))))
  exact ⟨fB (cT (fun e => by subst e; first | exact h27p rfl | exact absurd (aO h27) (by rw [bZ rfl]; decide) | exact absurd (aO h27) (by simp))).symm, st9.bare⟩
 have h27 := fM h27p
 refine wp_skip (wp_seq (wp_seq (aA (rn st9 5 h26_ [] [(24, .bool (!decide (x.tasks = y.tasks)))] [qb 1 rfl 3, qb 0 rfl 3, .o] aD fun f31 h31_ => (aB (bE (h31_.at 24) (fun h32p => ?_) (fun h32p => ?_)))))))
 ·have h32 := fL h32p
  refine wp_seq (aA (sg (aE (aB (wr (aM results166 rfl ?_))))))
  exact ⟨fB (cT (fun e => by subst e; first | exact h32p rfl | exact absurd (aO h32) (by rw [bZ rfl]; decide) | exact absurd (aO h32) (by simp))).symm, st9.bare⟩
 have h32 := fM h32p
 refine wp_skip (wp_seq (wp_seq (aA (rc st9 6 h31_ [] [(30, .bool (!(eqB x.edges y.edges)))] [qb 1 rfl 4, qb 0 rfl 4, qc func276 rfl (fun W s b => eqEdgeS_n W (h14_0.below s.below) (h15_0.below s.below)), .o] aD fun f36 W37 h36_ st38 hb39 => (aB (cF (h36_.at 30) (fun h40 => ?_) (fun h40 => ?_)))))))
 ·refine wp_seq (aA (sg (aE (aB (wr (aM results166 rfl ?_))))))
  exact ⟨fB (cT (fun e => by subst e; first | exact absurd (aO h40) (by rw [bZ rfl]; decide) | exact absurd (aO h40) (by simp))).symm, st38.bare⟩
 refine wp_skip (wp_seq (aA (sg (aE (aB (wr (aM results166 rfl ?_)))))))
 exact ⟨fB (bZ (Plan_ext h17p h22p h27p h32p (eqB_iff.1 (bY h40)))).symm, st38.bare⟩
theorem Entry_ext {x y : Entry} (h0 : x.prio = y.prio) (h1 : x.seq = y.seq) (h2 : x.run = y.run) (h3 : x.task = y.task) : x = y := by
 cases x; cases y; simp only at *; subst_vars; rfl
theorem eqEntry_n {x y : Entry} {cs ds : List Value} {fp gp : List Nat} (hc : Shape.C w cs x fp) (hd : Shape.C w ds y gp) :
  Calls prog 352 #[.agg cs.toArray, .agg ds.toArray] w (rB_ (eqB x y) w) := by
 refine bC func352 rfl ntmps352 aU (wp_seq (aA (sg (aH (cs := cs) rfl (St.start w) ?_)))); intro b1 W2 hb3 st4
 refine sg (aH (cs := ds) rfl st4 ?_); intro b6 W7 hb8 st9
 refine sg (aE (aB (wp_seq (wp_seq (aA ?_)))))
 have hk14 := hc
 obtain ⟨he14, rfl, hok14⟩ := hk14
 have he14 : _ = [I x.prio, I x.seq, I x.run, I x.task] := he14
 subst he14
 have hk15 := hd
 obtain ⟨he15, rfl, hok15⟩ := hk15
 have he15 : _ = [I y.prio, I y.seq, I y.run, I y.task] := he15
 subst he15
 refine rn st9 5 Ag.nil.put.put.put.put.put [] [(9, .bool (!decide (x.prio = y.prio)))] [qb 1 rfl 0, qb 0 rfl 0, .o] aD fun f16 h16_ => (aB (bE (h16_.at 9) (fun h17p => ?_) (fun h17p => ?_)))
 ·have h17 := fL h17p
  refine wp_seq (aA (sg (aE (aB (wr (aM results352 rfl ?_))))))
  exact ⟨fB (cT (fun e => by subst e; first | exact h17p rfl | exact absurd (aO h17) (by rw [bZ rfl]; decide) | exact absurd (aO h17) (by simp))).symm, st9.bare⟩
 have h17 := fM h17p
 refine wp_skip (wp_seq (wp_seq (aA (rn st9 5 h16_ [] [(14, .bool (!decide (x.seq = y.seq)))] [qb 1 rfl 1, qb 0 rfl 1, .o] aD fun f21 h21_ => (aB (bE (h21_.at 14) (fun h22p => ?_) (fun h22p => ?_)))))))
 ·have h22 := fL h22p
  refine wp_seq (aA (sg (aE (aB (wr (aM results352 rfl ?_))))))
  exact ⟨fB (cT (fun e => by subst e; first | exact h22p rfl | exact absurd (aO h22) (by rw [bZ rfl]; decide) | exact absurd (aO h22) (by simp))).symm, st9.bare⟩
 have h22 := fM h22p
 refine wp_skip (wp_seq (wp_seq (aA (rn st9 5 h21_ [] [(19, .bool (!decide (x.run = y.run)))] [qb 1 rfl 2, qb 0 rfl 2, .o] aD fun f26 h26_ => (aB (bE (h26_.at 19) (fun h27p => ?_) (fun h27p => ?_)))))))
 ·have h27 := fL h27p
  refine wp_seq (aA (sg (aE (aB (wr (aM results352 rfl ?_))))))
  exact ⟨fB (cT (fun e => by subst e; first | exact h27p rfl | exact absurd (aO h27) (by rw [bZ rfl]; decide) | exact absurd (aO h27) (by simp))).symm, st9.bare⟩
 have h27 := fM h27p
 refine wp_skip (wp_seq (wp_seq (aA (rn st9 5 h26_ [] [(24, .bool (!decide (x.task = y.task)))] [qb 1 rfl 3, qb 0 rfl 3, .o] aD fun f31 h31_ => (aB (bE (h31_.at 24) (fun h32p => ?_) (fun h32p => ?_)))))))
 ·have h32 := fL h32p
  refine wp_seq (aA (sg (aE (aB (wr (aM results352 rfl ?_))))))
  exact ⟨fB (cT (fun e => by subst e; first | exact h32p rfl | exact absurd (aO h32) (by rw [bZ rfl]; decide) | exact absurd (aO h32) (by simp))).symm, st9.bare⟩
 have h32 := fM h32p
 refine wp_skip (wp_seq (aA (sg (aE (aB (wr (aM results352 rfl ?_)))))))
 exact ⟨fB (bZ (Entry_ext h17p h22p h27p h32p)).symm, st9.bare⟩
theorem eqEntryS_n {v u : Value} {xs ys : List Entry} {fp gp : List Nat} (h : Sl w v xs fp) (g : Sl w u ys gp) :
  Calls prog 244 #[v, u] w fun e w' => e = .returned (.bool (eqB xs ys)) ∧ St w w' [] := by have zq1 := @func244; have zq2 := @ntmps244; have zq3 := @results244; have zq4 := @func352; have zq5 := @eqEntry_n; exact tq2_
theorem Task_ext {x y : Task} (h0 : x.state = y.state) (h1 : x.need = y.need) (h2 : x.try_ = y.try_) (h3 : x.until_ = y.until_) : x = y := by
 cases x; cases y; simp only at *; subst_vars; rfl
theorem eqTask_n {x y : Task} {cs ds : List Value} {fp gp : List Nat} (hc : Shape.C w cs x fp) (hd : Shape.C w ds y gp) :
  Calls prog 396 #[.agg cs.toArray, .agg ds.toArray] w (rB_ (eqB x y) w) := by
 refine bC func396 rfl ntmps396 aU (wp_seq (aA (sg (aH (cs := cs) rfl (St.start w) ?_)))); intro b1 W2 hb3 st4
 refine sg (aH (cs := ds) rfl st4 ?_); intro b6 W7 hb8 st9
 refine sg (aE (aB (wp_seq (wp_seq (aA ?_)))))
 have hk14 := hc
 obtain ⟨he14, rfl, hok14⟩ := hk14
 have he14 : _ = [I x.state, I x.need, I x.try_, I x.until_] := he14
 subst he14
 have hk15 := hd
 obtain ⟨he15, rfl, hok15⟩ := hk15
 have he15 : _ = [I y.state, I y.need, I y.try_, I y.until_] := he15
 subst he15
 refine rn st9 5 Ag.nil.put.put.put.put.put [] [(9, .bool (!decide (x.state = y.state)))] [qb 1 rfl 0, qb 0 rfl 0, .o] aD fun f16 h16_ => (aB (bE (h16_.at 9) (fun h17p => ?_) (fun h17p => ?_)))
 ·have h17 := fL h17p
  refine wp_seq (aA (sg (aE (aB (wr (aM results396 rfl ?_))))))
  exact ⟨fB (cT (fun e => by subst e; first | exact h17p rfl | exact absurd (aO h17) (by rw [bZ rfl]; decide) | exact absurd (aO h17) (by simp))).symm, st9.bare⟩
 have h17 := fM h17p
 refine wp_skip (wp_seq (wp_seq (aA (rn st9 5 h16_ [] [(14, .bool (!decide (x.need = y.need)))] [qb 1 rfl 1, qb 0 rfl 1, .o] aD fun f21 h21_ => (aB (bE (h21_.at 14) (fun h22p => ?_) (fun h22p => ?_)))))))
 ·have h22 := fL h22p
  refine wp_seq (aA (sg (aE (aB (wr (aM results396 rfl ?_))))))
  exact ⟨fB (cT (fun e => by subst e; first | exact h22p rfl | exact absurd (aO h22) (by rw [bZ rfl]; decide) | exact absurd (aO h22) (by simp))).symm, st9.bare⟩
 have h22 := fM h22p
 refine wp_skip (wp_seq (wp_seq (aA (rn st9 5 h21_ [] [(19, .bool (!decide (x.try_ = y.try_)))] [qb 1 rfl 2, qb 0 rfl 2, .o] aD fun f26 h26_ => (aB (bE (h26_.at 19) (fun h27p => ?_) (fun h27p => ?_)))))))
 ·have h27 := fL h27p
  refine wp_seq (aA (sg (aE (aB (wr (aM results396 rfl ?_))))))
  exact ⟨fB (cT (fun e => by subst e; first | exact h27p rfl | exact absurd (aO h27) (by rw [bZ rfl]; decide) | exact absurd (aO h27) (by simp))).symm, st9.bare⟩
 have h27 := fM h27p
 refine wp_skip (wp_seq (wp_seq (aA (rn st9 5 h26_ [] [(24, .bool (!decide (x.until_ = y.until_)))] [qb 1 rfl 3, qb 0 rfl 3, .o] aD fun f31 h31_ => (aB (bE (h31_.at 24) (fun h32p => ?_) (fun h32p => ?_)))))))
 ·have h32 := fL h32p
  refine wp_seq (aA (sg (aE (aB (wr (aM results396 rfl ?_))))))
  exact ⟨fB (cT (fun e => by subst e; first | exact h32p rfl | exact absurd (aO h32) (by rw [bZ rfl]; decide) | exact absurd (aO h32) (by simp))).symm, st9.bare⟩
 have h32 := fM h32p
 refine wp_skip (wp_seq (aA (sg (aE (aB (wr (aM results396 rfl ?_)))))))
 exact ⟨fB (bZ (Task_ext h17p h22p h27p h32p)).symm, st9.bare⟩
theorem eqTaskS_n {v u : Value} {xs ys : List Task} {fp gp : List Nat} (h : Sl w v xs fp) (g : Sl w u ys gp) :
  Calls prog 353 #[v, u] w fun e w' => e = .returned (.bool (eqB xs ys)) ∧ St w w' [] := by have zq1 := @func353; have zq2 := @ntmps353; have zq3 := @results353; have zq4 := @func396; have zq5 := @eqTask_n; exact tq2_
theorem Run_ext {x y : Run} (h0 : x.id = y.id) (h1 : x.plan = y.plan) (h2 : x.state = y.state) (h3 : x.tasks = y.tasks) : x = y := by
 cases x; cases y; simp only at *; subst_vars; rfl
theorem eqRun_n {x y : Run} {cs ds : List Value} {fp gp : List Nat} (hc : Shape.C w cs x fp) (hd : Shape.C w ds y gp) :
  Calls prog 245 #[.agg cs.toArray, .agg ds.toArray] w (rB_ (eqB x y) w) := by
 refine bC func245 rfl ntmps245 aU (wp_seq (aA (sg (aH (cs := cs) rfl (St.start w) ?_)))); intro b1 W2 hb3 st4
 refine sg (aH (cs := ds) rfl st4 ?_); intro b6 W7 hb8 st9
 refine sg (aE (aB (wp_seq (wp_seq (aA ?_)))))
 have hk14 := hc
 obtain ⟨v14_0, v14_1, g14_0, g14_1, rfl, hok14, h14_0, h14_1, rfl⟩ := hk14
 have hk15 := hd
 obtain ⟨v15_0, v15_1, g15_0, g15_1, rfl, hok15, h15_0, h15_1, rfl⟩ := hk15
 refine rn st9 5 Ag.nil.put.put.put.put.put [] [(9, .bool (!decide (x.id = y.id)))] [qb 1 rfl 0, qb 0 rfl 0, .o] aD fun f16 h16_ => (aB (bE (h16_.at 9) (fun h17p => ?_) (fun h17p => ?_)))
 ·have h17 := fL h17p
  refine wp_seq (aA (sg (aE (aB (wr (aM results245 rfl ?_))))))
  exact ⟨fB (cT (fun e => by subst e; first | exact h17p rfl | exact absurd (aO h17) (by rw [bZ rfl]; decide) | exact absurd (aO h17) (by simp))).symm, st9.bare⟩
 have h17 := fM h17p
 refine wp_skip (wp_seq (wp_seq (aA (rc st9 6 h16_ [] [(15, .bool (!(eqB x.plan y.plan)))] [qb 1 rfl 1, qb 0 rfl 1, qc func166 rfl (fun W s b => eqPlan_n W (show Shape.C _ [I x.plan.prio, I x.plan.most, I x.plan.wait, I x.plan.tasks, v14_0] x.plan _ from ⟨_, _, rfl, eQ, (h14_0.below s.below), rfl⟩) (show Shape.C _ [I y.plan.prio, I y.plan.most, I y.plan.wait, I y.plan.tasks, v15_0] y.plan _ from ⟨_, _, rfl, eQ, (h15_0.below s.below), rfl⟩)), .o] aD fun f21 W22 h21_ st23 hb24 => (aB (cF (h21_.at 15) (fun h25 => ?_) (fun h25 => ?_)))))))
 ·refine wp_seq (aA (sg (aE (aB (wr (aM results245 rfl ?_))))))
  exact ⟨fB (cT (fun e => by subst e; first | exact absurd (aO h25) (by rw [bZ rfl]; decide) | exact absurd (aO h25) (by simp))).symm, st23.bare⟩
 refine wp_skip (wp_seq (wp_seq (aA (rn st23 5 h21_ [] [(20, .bool (!decide (x.state = y.state)))] [qb 1 rfl 6, qb 0 rfl 6, .o] aD fun f29 h29_ => (aB (bE (h29_.at 20) (fun h30p => ?_) (fun h30p => ?_)))))))
 ·have h30 := fL h30p
  refine wp_seq (aA (sg (aE (aB (wr (aM results245 rfl ?_))))))
  exact ⟨fB (cT (fun e => by subst e; first | exact h30p rfl | exact absurd (aO h30) (by rw [bZ rfl]; decide) | exact absurd (aO h30) (by simp))).symm, st23.bare⟩
 have h30 := fM h30p
 refine wp_skip (wp_seq (wp_seq (aA (rc st23 6 h29_ [] [(26, .bool (!(eqB x.tasks y.tasks)))] [qb 1 rfl 7, qb 0 rfl 7, qc func353 rfl (fun W s b => eqTaskS_n W (h14_1.below s.below) (h15_1.below s.below)), .o] aD fun f34 W35 h34_ st36 hb37 => (aB (cF (h34_.at 26) (fun h38 => ?_) (fun h38 => ?_)))))))
 ·refine wp_seq (aA (sg (aE (aB (wr (aM results245 rfl ?_))))))
  exact ⟨fB (cT (fun e => by subst e; first | exact absurd (aO h38) (by rw [bZ rfl]; decide) | exact absurd (aO h38) (by simp))).symm, st36.bare⟩
 refine wp_skip (wp_seq (aA (sg (aE (aB (wr (aM results245 rfl ?_)))))))
 exact ⟨fB (bZ (Run_ext h17p (eqB_iff.1 (bY h25)) h30p (eqB_iff.1 (bY h38)))).symm, st36.bare⟩
theorem eqRunS_n {v u : Value} {xs ys : List Run} {fp gp : List Nat} (h : Sl w v xs fp) (g : Sl w u ys gp) :
  Calls prog 129 #[v, u] w (rB_ (eqB xs ys) w) := by
 have hcap := h.len_le
 have hcap2 := g.len_le
 refine bC func129 rfl ntmps129 aU (wp_seq (aA (sg (aE (aB (wp_seq (wp_seq (aA (rn (St.start w) 5 Ag.nil.put.put.put [] [(10, .bool (!decide ((xs.length : Int) = (ys.length : Int))))] [ql h, ql g, .o] aD fun f4 h4_ => (aB (bE (h4_.at 10) (fun h5p => ?_) (fun h5p => ?_))))))))))))
 ·refine wp_seq (aA (sg (aE (aB (wr (aM results129 rfl ?_))))))
  exact ⟨fB (cT (fun e => h5p (by rw [e]))).symm, (St.start w).bare⟩
 refine wp_skip (wp_seq (wp_seq (aA (sg (aE (aB (wp_block (aQ (fun (m : Nat) (f : Nat → Value) (W : World) => ∃ (k : Nat), k ≤ xs.length ∧ xs.take k = ys.take k ∧ m = xs.length - k ∧ Ag [(0, v), (1, u), (5, I (k : Int))] f ∧ St w W ([])) (xs.length - 0) ?_ ?_))))))))
 ·exact ⟨0, Nat.zero_le _, rfl, rfl, (h4_.put.to aD), (St.start w)⟩
 intro m10 f11 W12 hJ13
 obtain ⟨k, hk, htk, rfl, hA15, st14⟩ := hJ13
 refine wp_seq (wp_seq (aA (rn st14 4 hA15 [] [(14, .bool (decide ((k : Int) < (xs.length : Int))))] [ql h, .o] aD fun f17 h17_ => (aB (aK (h17_.at 14) (fun h18p => ?_) (fun h18p => ?_))))))
 ·refine wp_skip (wp_seq (wp_block (wp_seq ?_)))
  have hi51fab : k < xs.length := aC
  obtain ⟨b20, o20, cs20, f20, hp20, hr20, hc20, hm20⟩ := idx h (i := k) hi51fab
  have hi28e79 : k < ys.length := aC
  obtain ⟨b21, o21, cs21, f21, hp21, hr21, hc21, hm21⟩ := idx g (i := k) hi28e79
  refine rd st14 h17_ [] [(26, .bool (!(eqB (xs[k]'hi51fab) (ys[k]'hi28e79))))] [qx hp20, qrw hr20 (Shape.len hc20), qx hp21, qrw hr21 (Shape.len hc21), qc (args := [.agg cs20.toArray, .agg cs21.toArray]) (v := .bool (eqB (xs[k]'hi51fab) (ys[k]'hi28e79))) func245 rfl (fun W s b => eqRun_n W (bG hc20 s.below) (bG hc21 s.below)), .o] aD aD fun f22 W23 h22_ st24 hb25 => (cF (h22_.at 26) (fun h26 => ?_) (fun h26 => ?_))
  ·refine wp_seq (aA (sg (aE (aB (wr (aM results129 rfl ?_))))))
   have hne : ¬ xs[k] = ys[k]'(by omega) := fun e => absurd (aO h26) (by rw [bZ e]; decide)
   exact ⟨fB (cT (fun e => hne (by subst e; rfl))).symm, st24.bare⟩
  refine wp_skip (aA (rn st24 3 h22_ [5] [(5, I ((k : Int) + 1))] [qad (k : Int) 1] aD fun f30 h30_ => (aB ?_)))
  exact ⟨_, xs.length - (k + 1), aC, rfl, k + 1, aC, (lO aC aC htk (eqB_iff.1 (bY h26))), rfl, (h30_.to aD), st24⟩
 refine wp_exit (wp_seq (aA (sg (aE (aB (wr (aM results129 rfl ?_)))))))
 obtain rfl : k = xs.length := by omega
 rw [take_length, take_of_length_le aC] at htk
 exact ⟨fB (bZ htk).symm, st14.bare⟩
theorem eqEntrySS_n {v u : Value} {xs ys : List (List Entry)} {fp gp : List Nat} (h : Sl w v xs fp) (g : Sl w u ys gp) :
  Calls prog 128 #[v, u] w (rB_ (eqB xs ys) w) := by
 have hcap := h.len_le
 have hcap2 := g.len_le
 refine bC func128 rfl ntmps128 aU (wp_seq (aA (sg (aE (aB (wp_seq (wp_seq (aA (rn (St.start w) 5 Ag.nil.put.put.put [] [(10, .bool (!decide ((xs.length : Int) = (ys.length : Int))))] [ql h, ql g, .o] aD fun f4 h4_ => (aB (bE (h4_.at 10) (fun h5p => ?_) (fun h5p => ?_))))))))))))
 ·refine wp_seq (aA (sg (aE (aB (wr (aM results128 rfl ?_))))))
  exact ⟨fB (cT (fun e => h5p (by rw [e]))).symm, (St.start w).bare⟩
 refine wp_skip (wp_seq (wp_seq (aA (sg (aE (aB (wp_block (aQ (fun (m : Nat) (f : Nat → Value) (W : World) => ∃ (k : Nat), k ≤ xs.length ∧ xs.take k = ys.take k ∧ m = xs.length - k ∧ Ag [(0, v), (1, u), (5, I (k : Int))] f ∧ St w W ([])) (xs.length - 0) ?_ ?_))))))))
 ·exact ⟨0, Nat.zero_le _, rfl, rfl, (h4_.put.to aD), (St.start w)⟩
 intro m10 f11 W12 hJ13
 obtain ⟨k, hk, htk, rfl, hA15, st14⟩ := hJ13
 refine wp_seq (wp_seq (aA (rn st14 4 hA15 [] [(14, .bool (decide ((k : Int) < (xs.length : Int))))] [ql h, .o] aD fun f17 h17_ => (aB (aK (h17_.at 14) (fun h18p => ?_) (fun h18p => ?_))))))
 ·refine wp_skip (wp_seq (wp_block (wp_seq ?_)))
  have hi51fab : k < xs.length := aC
  obtain ⟨b20, o20, cs20, f20, hp20, hr20, hc20, hm20⟩ := idx h (i := k) hi51fab
  have hk20 := hc20
  obtain ⟨v21, rfl, h22⟩ := hk20
  have hi28e79 : k < ys.length := aC
  obtain ⟨b23, o23, cs23, f23, hp23, hr23, hc23, hm23⟩ := idx g (i := k) hi28e79
  have hk23 := hc23
  obtain ⟨v24, rfl, h25⟩ := hk23
  refine rd st14 h17_ [] [(26, .bool (!(eqB (xs[k]'hi51fab) (ys[k]'hi28e79))))] [qx hp20, qr hr20 0, qx hp23, qr hr23 0, qc (args := [v21, v24]) (v := .bool (eqB (xs[k]'hi51fab) (ys[k]'hi28e79))) func244 rfl (fun W s b => eqEntryS_n W (h22.below s.below) (h25.below s.below)), .o] aD aD fun f26 W27 h26_ st28 hb29 => (cF (h26_.at 26) (fun h30 => ?_) (fun h30 => ?_))
  ·refine wp_seq (aA (sg (aE (aB (wr (aM results128 rfl ?_))))))
   have hne : ¬ xs[k] = ys[k]'(by omega) := fun e => absurd (aO h30) (by rw [bZ e]; decide)
   exact ⟨fB (cT (fun e => hne (by subst e; rfl))).symm, st28.bare⟩
  refine wp_skip (aA (rn st28 3 h26_ [5] [(5, I ((k : Int) + 1))] [qad (k : Int) 1] aD fun f34 h34_ => (aB ?_)))
  exact ⟨_, xs.length - (k + 1), aC, rfl, k + 1, aC, (lO aC aC htk (eqB_iff.1 (bY h30))), rfl, (h34_.to aD), st28⟩
 refine wp_exit (wp_seq (aA (sg (aE (aB (wr (aM results128 rfl ?_)))))))
 obtain rfl : k = xs.length := by omega
 rw [take_length, take_of_length_le aC] at htk
 exact ⟨fB (bZ htk).symm, st14.bare⟩
theorem Yard_ext {x y : Yard} (h0 : x.now = y.now) (h1 : x.seq = y.seq) (h2 : x.shelf = y.shelf) (h3 : x.runs = y.runs) : x = y := by
 cases x; cases y; simp only at *; subst_vars; rfl
theorem eqYard_n {x y : Yard} {cs ds : List Value} {fp gp : List Nat} (hc : Shape.C w cs x fp) (hd : Shape.C w ds y gp) :
  Calls prog 36 #[.agg cs.toArray, .agg ds.toArray] w (rB_ (eqB x y) w) := by
 refine bC func36 rfl ntmps36 aU (wp_seq (aA (sg (aH (cs := cs) rfl (St.start w) ?_)))); intro b1 W2 hb3 st4
 refine sg (aH (cs := ds) rfl st4 ?_); intro b6 W7 hb8 st9
 refine sg (aE (aB (wp_seq (wp_seq (aA ?_)))))
 have hk14 := hc
 obtain ⟨v14_0, v14_1, g14_0, g14_1, rfl, hok14, h14_0, h14_1, rfl⟩ := hk14
 have hk15 := hd
 obtain ⟨v15_0, v15_1, g15_0, g15_1, rfl, hok15, h15_0, h15_1, rfl⟩ := hk15
 refine rn st9 5 Ag.nil.put.put.put.put.put [] [(9, .bool (!decide (x.now = y.now)))] [qb 1 rfl 0, qb 0 rfl 0, .o] aD fun f16 h16_ => (aB (bE (h16_.at 9) (fun h17p => ?_) (fun h17p => ?_)))
 ·have h17 := fL h17p
  refine wp_seq (aA (sg (aE (aB (wr (aM results36 rfl ?_))))))
  exact ⟨fB (cT (fun e => by subst e; first | exact h17p rfl | exact absurd (aO h17) (by rw [bZ rfl]; decide) | exact absurd (aO h17) (by simp))).symm, st9.bare⟩
 have h17 := fM h17p
 refine wp_skip (wp_seq (wp_seq (aA (rn st9 5 h16_ [] [(14, .bool (!decide (x.seq = y.seq)))] [qb 1 rfl 1, qb 0 rfl 1, .o] aD fun f21 h21_ => (aB (bE (h21_.at 14) (fun h22p => ?_) (fun h22p => ?_)))))))
 ·have h22 := fL h22p
  refine wp_seq (aA (sg (aE (aB (wr (aM results36 rfl ?_))))))
  exact ⟨fB (cT (fun e => by subst e; first | exact h22p rfl | exact absurd (aO h22) (by rw [bZ rfl]; decide) | exact absurd (aO h22) (by simp))).symm, st9.bare⟩
 have h22 := fM h22p
 refine wp_skip (wp_seq (wp_seq (aA (rc st9 6 h21_ [] [(20, .bool (!(eqB x.shelf y.shelf)))] [qb 1 rfl 2, qb 0 rfl 2, qc func128 rfl (fun W s b => eqEntrySS_n W (h14_0.below s.below) (h15_0.below s.below)), .o] aD fun f26 W27 h26_ st28 hb29 => (aB (cF (h26_.at 20) (fun h30 => ?_) (fun h30 => ?_)))))))
 ·refine wp_seq (aA (sg (aE (aB (wr (aM results36 rfl ?_))))))
  exact ⟨fB (cT (fun e => by subst e; first | exact absurd (aO h30) (by rw [bZ rfl]; decide) | exact absurd (aO h30) (by simp))).symm, st28.bare⟩
 refine wp_skip (wp_seq (wp_seq (aA (rc st28 6 h26_ [] [(26, .bool (!(eqB x.runs y.runs)))] [qb 1 rfl 3, qb 0 rfl 3, qc func129 rfl (fun W s b => eqRunS_n W (h14_1.below s.below) (h15_1.below s.below)), .o] aD fun f34 W35 h34_ st36 hb37 => (aB (cF (h34_.at 26) (fun h38 => ?_) (fun h38 => ?_)))))))
 ·refine wp_seq (aA (sg (aE (aB (wr (aM results36 rfl ?_))))))
  exact ⟨fB (cT (fun e => by subst e; first | exact absurd (aO h38) (by rw [bZ rfl]; decide) | exact absurd (aO h38) (by simp))).symm, st36.bare⟩
 refine wp_skip (wp_seq (aA (sg (aE (aB (wr (aM results36 rfl ?_)))))))
 exact ⟨fB (bZ (Yard_ext h17p h22p (eqB_iff.1 (bY h30)) (eqB_iff.1 (bY h38)))).symm, st36.bare⟩
theorem Reply_ext {x y : Reply} (h0 : x.code = y.code) (h1 : x.run = y.run) (h2 : x.task = y.task) (h3 : x.try_ = y.try_) : x = y := by
 cases x; cases y; simp only at *; subst_vars; rfl
theorem eqReply_n {x y : Reply} {cs ds : List Value} {fp gp : List Nat} (hc : Shape.C w cs x fp) (hd : Shape.C w ds y gp) :
  Calls prog 272 #[.agg cs.toArray, .agg ds.toArray] w (rB_ (eqB x y) w) := by
 refine bC func272 rfl ntmps272 aU (wp_seq (aA (sg (aH (cs := cs) rfl (St.start w) ?_)))); intro b1 W2 hb3 st4
 refine sg (aH (cs := ds) rfl st4 ?_); intro b6 W7 hb8 st9
 refine sg (aE (aB (wp_seq (wp_seq (aA ?_)))))
 have hk14 := hc
 obtain ⟨he14, rfl, hok14⟩ := hk14
 have he14 : _ = [I x.code, I x.run, I x.task, I x.try_] := he14
 subst he14
 have hk15 := hd
 obtain ⟨he15, rfl, hok15⟩ := hk15
 have he15 : _ = [I y.code, I y.run, I y.task, I y.try_] := he15
 subst he15
 refine rn st9 5 Ag.nil.put.put.put.put.put [] [(9, .bool (!decide (x.code = y.code)))] [qb 1 rfl 0, qb 0 rfl 0, .o] aD fun f16 h16_ => (aB (bE (h16_.at 9) (fun h17p => ?_) (fun h17p => ?_)))
 ·have h17 := fL h17p
  refine wp_seq (aA (sg (aE (aB (wr (aM results272 rfl ?_))))))
  exact ⟨fB (cT (fun e => by subst e; first | exact h17p rfl | exact absurd (aO h17) (by rw [bZ rfl]; decide) | exact absurd (aO h17) (by simp))).symm, st9.bare⟩
 have h17 := fM h17p
 refine wp_skip (wp_seq (wp_seq (aA (rn st9 5 h16_ [] [(14, .bool (!decide (x.run = y.run)))] [qb 1 rfl 1, qb 0 rfl 1, .o] aD fun f21 h21_ => (aB (bE (h21_.at 14) (fun h22p => ?_) (fun h22p => ?_)))))))
 ·have h22 := fL h22p
  refine wp_seq (aA (sg (aE (aB (wr (aM results272 rfl ?_))))))
  exact ⟨fB (cT (fun e => by subst e; first | exact h22p rfl | exact absurd (aO h22) (by rw [bZ rfl]; decide) | exact absurd (aO h22) (by simp))).symm, st9.bare⟩
 have h22 := fM h22p
 refine wp_skip (wp_seq (wp_seq (aA (rn st9 5 h21_ [] [(19, .bool (!decide (x.task = y.task)))] [qb 1 rfl 2, qb 0 rfl 2, .o] aD fun f26 h26_ => (aB (bE (h26_.at 19) (fun h27p => ?_) (fun h27p => ?_)))))))
 ·have h27 := fL h27p
  refine wp_seq (aA (sg (aE (aB (wr (aM results272 rfl ?_))))))
  exact ⟨fB (cT (fun e => by subst e; first | exact h27p rfl | exact absurd (aO h27) (by rw [bZ rfl]; decide) | exact absurd (aO h27) (by simp))).symm, st9.bare⟩
 have h27 := fM h27p
 refine wp_skip (wp_seq (wp_seq (aA (rn st9 5 h26_ [] [(24, .bool (!decide (x.try_ = y.try_)))] [qb 1 rfl 3, qb 0 rfl 3, .o] aD fun f31 h31_ => (aB (bE (h31_.at 24) (fun h32p => ?_) (fun h32p => ?_)))))))
 ·have h32 := fL h32p
  refine wp_seq (aA (sg (aE (aB (wr (aM results272 rfl ?_))))))
  exact ⟨fB (cT (fun e => by subst e; first | exact h32p rfl | exact absurd (aO h32) (by rw [bZ rfl]; decide) | exact absurd (aO h32) (by simp))).symm, st9.bare⟩
 have h32 := fM h32p
 refine wp_skip (wp_seq (aA (sg (aE (aB (wr (aM results272 rfl ?_)))))))
 exact ⟨fB (bZ (Reply_ext h17p h22p h27p h32p)).symm, st9.bare⟩
theorem Wait_ext {x y : Wait} (h0 : x.call = y.call) (h1 : x.reply = y.reply) : x = y := by
 cases x; cases y; simp only at *; subst_vars; rfl
theorem eqWait_n {x y : Wait} {cs ds : List Value} {fp gp : List Nat} (hc : Shape.C w cs x fp) (hd : Shape.C w ds y gp) :
  Calls prog 259 #[.agg cs.toArray, .agg ds.toArray] w (rB_ (eqB x y) w) := by
 refine bC func259 rfl ntmps259 aU (wp_seq (aA (sg (aH (cs := cs) rfl (St.start w) ?_)))); intro b1 W2 hb3 st4
 refine sg (aH (cs := ds) rfl st4 ?_); intro b6 W7 hb8 st9
 refine sg (aE (aB (wp_seq (wp_seq (aA ?_)))))
 have hk14 := hc
 obtain ⟨he14, rfl, hok14⟩ := hk14
 have he14 : _ = [I x.call, I x.reply.code, I x.reply.run, I x.reply.task, I x.reply.try_] := he14
 subst he14
 have hk15 := hd
 obtain ⟨he15, rfl, hok15⟩ := hk15
 have he15 : _ = [I y.call, I y.reply.code, I y.reply.run, I y.reply.task, I y.reply.try_] := he15
 subst he15
 refine rn st9 5 Ag.nil.put.put.put.put.put [] [(9, .bool (!decide (x.call = y.call)))] [qb 1 rfl 0, qb 0 rfl 0, .o] aD fun f16 h16_ => (aB (bE (h16_.at 9) (fun h17p => ?_) (fun h17p => ?_)))
 ·have h17 := fL h17p
  refine wp_seq (aA (sg (aE (aB (wr (aM results259 rfl ?_))))))
  exact ⟨fB (cT (fun e => by subst e; first | exact h17p rfl | exact absurd (aO h17) (by rw [bZ rfl]; decide) | exact absurd (aO h17) (by simp))).symm, st9.bare⟩
 have h17 := fM h17p
 refine wp_skip (wp_seq (wp_seq (aA (rc st9 6 h16_ [] [(15, .bool (!(eqB x.reply y.reply)))] [qb 1 rfl 1, qb 0 rfl 1, qc func272 rfl (fun W s b => eqReply_n W (show Shape.C _ [I x.reply.code, I x.reply.run, I x.reply.task, I x.reply.try_] x.reply [] from ⟨rfl, rfl, eQ⟩) (show Shape.C _ [I y.reply.code, I y.reply.run, I y.reply.task, I y.reply.try_] y.reply [] from ⟨rfl, rfl, eQ⟩)), .o] aD fun f21 W22 h21_ st23 hb24 => (aB (cF (h21_.at 15) (fun h25 => ?_) (fun h25 => ?_)))))))
 ·refine wp_seq (aA (sg (aE (aB (wr (aM results259 rfl ?_))))))
  exact ⟨fB (cT (fun e => by subst e; first | exact absurd (aO h25) (by rw [bZ rfl]; decide) | exact absurd (aO h25) (by simp))).symm, st23.bare⟩
 refine wp_skip (wp_seq (aA (sg (aE (aB (wr (aM results259 rfl ?_)))))))
 exact ⟨fB (bZ (Wait_ext h17p (eqB_iff.1 (bY h25)))).symm, st23.bare⟩
theorem eqWaitS_n {v u : Value} {xs ys : List Wait} {fp gp : List Nat} (h : Sl w v xs fp) (g : Sl w u ys gp) :
  Calls prog 143 #[v, u] w fun e w' => e = .returned (.bool (eqB xs ys)) ∧ St w w' [] := by have zq1 := @func143; have zq2 := @ntmps143; have zq3 := @results143; have zq4 := @func259; have zq5 := @eqWait_n; exact tq2_
theorem File_ext {x y : File} (h0 : x.name = y.name) (h1 : x.data = y.data) (h2 : x.safe = y.safe) : x = y := by
 cases x; cases y; simp only at *; subst_vars; rfl
theorem eqFile_n {x y : File} {cs ds : List Value} {fp gp : List Nat} (hc : Shape.C w cs x fp) (hd : Shape.C w ds y gp) :
  Calls prog 246 #[.agg cs.toArray, .agg ds.toArray] w (rB_ (eqB x y) w) := by
 refine bC func246 rfl ntmps246 aU (wp_seq (aA (sg (aH (cs := cs) rfl (St.start w) ?_)))); intro b1 W2 hb3 st4
 refine sg (aH (cs := ds) rfl st4 ?_); intro b6 W7 hb8 st9
 refine sg (aE (aB (wp_seq (wp_seq (aA ?_)))))
 have hk14 := hc
 obtain ⟨he14, rfl, hok14⟩ := hk14
 have he14 : _ = [.string x.name, .string x.data, I x.safe] := he14
 subst he14
 have hk15 := hd
 obtain ⟨he15, rfl, hok15⟩ := hk15
 have he15 : _ = [.string y.name, .string y.data, I y.safe] := he15
 subst he15
 refine rn st9 5 Ag.nil.put.put.put.put.put [] [(9, .bool (!decide (x.name = y.name)))] [qb 1 rfl 0, qb 0 rfl 0, .o] aD fun f16 h16_ => (aB (bE (h16_.at 9) (fun h17p => ?_) (fun h17p => ?_)))
 ·have h17 := fL h17p
  refine wp_seq (aA (sg (aE (aB (wr (aM results246 rfl ?_))))))
  exact ⟨fB (cT (fun e => by subst e; first | exact h17p rfl | exact absurd (aO h17) (by rw [bZ rfl]; decide) | exact absurd (aO h17) (by simp))).symm, st9.bare⟩
 have h17 := fM h17p
 refine wp_skip (wp_seq (wp_seq (aA (rn st9 5 h16_ [] [(14, .bool (!decide (x.data = y.data)))] [qb 1 rfl 1, qb 0 rfl 1, .o] aD fun f21 h21_ => (aB (bE (h21_.at 14) (fun h22p => ?_) (fun h22p => ?_)))))))
 ·have h22 := fL h22p
  refine wp_seq (aA (sg (aE (aB (wr (aM results246 rfl ?_))))))
  exact ⟨fB (cT (fun e => by subst e; first | exact h22p rfl | exact absurd (aO h22) (by rw [bZ rfl]; decide) | exact absurd (aO h22) (by simp))).symm, st9.bare⟩
 have h22 := fM h22p
 refine wp_skip (wp_seq (wp_seq (aA (rn st9 5 h21_ [] [(19, .bool (!decide (x.safe = y.safe)))] [qb 1 rfl 2, qb 0 rfl 2, .o] aD fun f26 h26_ => (aB (bE (h26_.at 19) (fun h27p => ?_) (fun h27p => ?_)))))))
 ·have h27 := fL h27p
  refine wp_seq (aA (sg (aE (aB (wr (aM results246 rfl ?_))))))
  exact ⟨fB (cT (fun e => by subst e; first | exact h27p rfl | exact absurd (aO h27) (by rw [bZ rfl]; decide) | exact absurd (aO h27) (by simp))).symm, st9.bare⟩
 have h27 := fM h27p
 refine wp_skip (wp_seq (aA (sg (aE (aB (wr (aM results246 rfl ?_)))))))
 exact ⟨fB (bZ (File_ext h17p h22p h27p)).symm, st9.bare⟩
theorem eqFileS_n {v u : Value} {xs ys : List File} {fp gp : List Nat} (h : Sl w v xs fp) (g : Sl w u ys gp) :
  Calls prog 130 #[v, u] w fun e w' => e = .returned (.bool (eqB xs ys)) ∧ St w w' [] := by have zq1 := @func130; have zq2 := @ntmps130; have zq3 := @results130; have zq4 := @func246; have zq5 := @eqFile_n; exact tq2_
theorem Disk_ext {x y : Disk} (h0 : x.files = y.files) : x = y := by
 cases x; cases y; simp only at *; subst_vars; rfl
theorem eqDisk_n {x y : Disk} {cs ds : List Value} {fp gp : List Nat} (hc : Shape.C w cs x fp) (hd : Shape.C w ds y gp) :
  Calls prog 37 #[.agg cs.toArray, .agg ds.toArray] w (rB_ (eqB x y) w) := by
 refine bC func37 rfl ntmps37 aU (wp_seq (aA (sg (aH (cs := cs) rfl (St.start w) ?_)))); intro b1 W2 hb3 st4
 refine sg (aH (cs := ds) rfl st4 ?_); intro b6 W7 hb8 st9
 refine sg (aE (aB (wp_seq (wp_seq (aA ?_)))))
 have hk14 := hc
 obtain ⟨v14_0, g14_0, rfl, hok14, h14_0, rfl⟩ := hk14
 have hk15 := hd
 obtain ⟨v15_0, g15_0, rfl, hok15, h15_0, rfl⟩ := hk15
 refine rc st9 6 Ag.nil.put.put.put.put.put [] [(10, .bool (!(eqB x.files y.files)))] [qb 1 rfl 0, qb 0 rfl 0, qc func130 rfl (fun W s b => eqFileS_n W (h14_0.below s.below) (h15_0.below s.below)), .o] aD fun f16 W17 h16_ st18 hb19 => (aB (cF (h16_.at 10) (fun h20 => ?_) (fun h20 => ?_)))
 ·refine wp_seq (aA (sg (aE (aB (wr (aM results37 rfl ?_))))))
  exact ⟨fB (cT (fun e => by subst e; first | exact absurd (aO h20) (by rw [bZ rfl]; decide) | exact absurd (aO h20) (by simp))).symm, st18.bare⟩
 refine wp_skip (wp_seq (aA (sg (aE (aB (wr (aM results37 rfl ?_)))))))
 exact ⟨fB (bZ (Disk_ext (eqB_iff.1 (bY h20)))).symm, st18.bare⟩
theorem Engine_ext {x y : Engine} (h0 : x.yard = y.yard) (h1 : x.disk = y.disk) (h2 : x.next = y.next) (h3 : x.calls = y.calls) (h4 : x.waits = y.waits) (h5 : x.state = y.state) (h6 : x.broken = y.broken) : x = y := by
 cases x; cases y; simp only at *; subst_vars; rfl
theorem mI {x y : Engine} {cs ds : List Value} {fp gp : List Nat} (hc : Shape.C w cs x fp) (hd : Shape.C w ds y gp) :
  Calls prog 44 #[.agg cs.toArray, .agg ds.toArray] w (rB_ (eqB x y) w) := by
 refine bC func44 rfl ntmps44 aU (wp_seq (aA (sg (aH (cs := cs) rfl (St.start w) ?_)))); intro b1 W2 hb3 st4
 refine sg (aH (cs := ds) rfl st4 ?_); intro b6 W7 hb8 st9
 refine sg (aE (aB (wp_seq (wp_seq (aA ?_)))))
 have hk14 := hc
 obtain ⟨v14_0, v14_1, v14_2, v14_3, g14_0, g14_1, g14_2, g14_3, rfl, hok14, h14_0, h14_1, h14_2, h14_3, rfl⟩ := hk14
 have hk15 := hd
 obtain ⟨v15_0, v15_1, v15_2, v15_3, g15_0, g15_1, g15_2, g15_3, rfl, hok15, h15_0, h15_1, h15_2, h15_3, rfl⟩ := hk15
 refine rc st9 6 Ag.nil.put.put.put.put.put [] [(10, .bool (!(eqB x.yard y.yard)))] [qb 1 rfl 0, qb 0 rfl 0, qc func36 rfl (fun W s b => eqYard_n W (show Shape.C _ [I x.yard.now, I x.yard.seq, v14_0, v14_1] x.yard _ from ⟨_, _, _, _, rfl, eQ, (h14_0.below s.below), (h14_1.below s.below), rfl⟩) (show Shape.C _ [I y.yard.now, I y.yard.seq, v15_0, v15_1] y.yard _ from ⟨_, _, _, _, rfl, eQ, (h15_0.below s.below), (h15_1.below s.below), rfl⟩)), .o] aD fun f16 W17 h16_ st18 hb19 => (aB (cF (h16_.at 10) (fun h20 => ?_) (fun h20 => ?_)))
 ·refine wp_seq (aA (sg (aE (aB (wr (aM results44 rfl ?_))))))
  exact ⟨fB (cT (fun e => by subst e; first | exact absurd (aO h20) (by rw [bZ rfl]; decide) | exact absurd (aO h20) (by simp))).symm, st18.bare⟩
 refine wp_skip (wp_seq (wp_seq (aA (rc st18 6 h16_ [] [(16, .bool (!(eqB x.disk y.disk)))] [qb 1 rfl 4, qb 0 rfl 4, qc func37 rfl (fun W s b => eqDisk_n W (show Shape.C _ [v14_2] x.disk _ from ⟨_, _, rfl, eQ, (h14_2.below s.below), rfl⟩) (show Shape.C _ [v15_2] y.disk _ from ⟨_, _, rfl, eQ, (h15_2.below s.below), rfl⟩)), .o] aD fun f24 W25 h24_ st26 hb27 => (aB (cF (h24_.at 16) (fun h28 => ?_) (fun h28 => ?_)))))))
 ·refine wp_seq (aA (sg (aE (aB (wr (aM results44 rfl ?_))))))
  exact ⟨fB (cT (fun e => by subst e; first | exact absurd (aO h28) (by rw [bZ rfl]; decide) | exact absurd (aO h28) (by simp))).symm, st26.bare⟩
 refine wp_skip (wp_seq (wp_seq (aA (rn st26 5 h24_ [] [(21, .bool (!decide (x.next = y.next)))] [qb 1 rfl 5, qb 0 rfl 5, .o] aD fun f32 h32_ => (aB (bE (h32_.at 21) (fun h33p => ?_) (fun h33p => ?_)))))))
 ·have h33 := fL h33p
  refine wp_seq (aA (sg (aE (aB (wr (aM results44 rfl ?_))))))
  exact ⟨fB (cT (fun e => by subst e; first | exact h33p rfl | exact absurd (aO h33) (by rw [bZ rfl]; decide) | exact absurd (aO h33) (by simp))).symm, st26.bare⟩
 have h33 := fM h33p
 refine wp_skip (wp_seq (wp_seq (aA (rn st26 5 h32_ [] [(26, .bool (!decide (x.calls = y.calls)))] [qb 1 rfl 6, qb 0 rfl 6, .o] aD fun f37 h37_ => (aB (bE (h37_.at 26) (fun h38p => ?_) (fun h38p => ?_)))))))
 ·have h38 := fL h38p
  refine wp_seq (aA (sg (aE (aB (wr (aM results44 rfl ?_))))))
  exact ⟨fB (cT (fun e => by subst e; first | exact h38p rfl | exact absurd (aO h38) (by rw [bZ rfl]; decide) | exact absurd (aO h38) (by simp))).symm, st26.bare⟩
 have h38 := fM h38p
 refine wp_skip (wp_seq (wp_seq (aA (rc st26 6 h37_ [] [(32, .bool (!(eqB x.waits y.waits)))] [qb 1 rfl 7, qb 0 rfl 7, qc func143 rfl (fun W s b => eqWaitS_n W (h14_3.below s.below) (h15_3.below s.below)), .o] aD fun f42 W43 h42_ st44 hb45 => (aB (cF (h42_.at 32) (fun h46 => ?_) (fun h46 => ?_)))))))
 ·refine wp_seq (aA (sg (aE (aB (wr (aM results44 rfl ?_))))))
  exact ⟨fB (cT (fun e => by subst e; first | exact absurd (aO h46) (by rw [bZ rfl]; decide) | exact absurd (aO h46) (by simp))).symm, st44.bare⟩
 refine wp_skip (wp_seq (wp_seq (aA (rn st44 5 h42_ [] [(37, .bool (!decide (x.state = y.state)))] [qb 1 rfl 8, qb 0 rfl 8, .o] aD fun f50 h50_ => (aB (bE (h50_.at 37) (fun h51p => ?_) (fun h51p => ?_)))))))
 ·have h51 := fL h51p
  refine wp_seq (aA (sg (aE (aB (wr (aM results44 rfl ?_))))))
  exact ⟨fB (cT (fun e => by subst e; first | exact h51p rfl | exact absurd (aO h51) (by rw [bZ rfl]; decide) | exact absurd (aO h51) (by simp))).symm, st44.bare⟩
 have h51 := fM h51p
 refine wp_skip (wp_seq (wp_seq (aA (lw h50_ [(2, pt_ b1), (3, pt_ b6)] aD fun h56_ => (rn st44 4 h56_ [] [(39, .bool x.broken), (41, .bool y.broken)] [qb 1 rfl 9, qb 0 rfl 9] aD fun f55 h55_ => (sg (pV underlying4 (h55_.at 39) (h55_.at 41) (aB (cF rfl (fun h57 => ?_) (fun h57 => ?_))))))))))
 ·refine wp_seq (aA (sg (aE (aB (wr (aM results44 rfl ?_))))))
  exact ⟨fB (cT (fun e => by subst e; first | exact absurd (aO h57) (by rw [bZ rfl]; decide) | exact absurd (aO h57) (by simp))).symm, st44.bare⟩
 refine wp_skip (wp_seq (aA (sg (aE (aB (wr (aM results44 rfl ?_)))))))
 exact ⟨fB (bZ (Engine_ext (eqB_iff.1 (bY h20)) (eqB_iff.1 (bY h28)) h33p h38p (eqB_iff.1 (bY h46)) h51p (by have := bY h57; simpa using this))).symm, st44.bare⟩

/-! ### Traces: what is to be equal, for the kernel to see in one go -/
inductive Tr : Type 2
 | ok
 | no
 | e0 {α : Type} (a b : α) (k : Tr)
 | e1 {α : Type 1} (a b : α) (k : Tr)
 | fn {α : Type} (f : α → Tr)
 | f1 {α : Type 1} (f : α → Tr)
 | fp (p : Prop) (f : p → Tr)
 | an (a b : Tr)
def Tr.holds : Tr → Prop
 | .ok => True
 | .no => False
 | .e0 a b k => a = b ∧ k.holds
 | .e1 a b k => a = b ∧ k.holds
 | .fn f => ∀ x, (f x).holds
 | .f1 f => ∀ x, (f x).holds
 | .fp _ f => ∀ h, (f h).holds
 | .an a b => a.holds ∧ b.holds
inductive T2 : Type 2
 | ok
 | no (b : Bool)
 | e0 {α : Type} (a : α) (k : T2)
 | e1 {α : Type 1} (a : α) (k : T2)
 | fn {α : Type} (f : α → T2)
 | f1 {α : Type 1} (f : α → T2)
 | fp (p : Prop) (f : p → T2)
 | an (a b : T2)
def Tr.side (c : Bool) : Tr → T2
 | .ok => .ok
 | .no => .no c
 | .e0 a b k => .e0 (cond c a b) (k.side c)
 | .e1 a b k => .e1 (cond c a b) (k.side c)
 | .fn f => .fn fun x => (f x).side c
 | .f1 f => .f1 fun x => (f x).side c
 | .fp p f => .fp p fun h => (f h).side c
 | .an a b => .an (a.side c) (b.side c)
theorem Tr.of_side : ∀ {t : Tr}, t.side true = t.side false → t.holds
 | .ok, _ => trivial
 | .no, h => by simp [Tr.side] at h
 | .e0 a b k, h => by
  simp only [Tr.side, cond_true, cond_false, T2.e0.injEq, heq_eq_eq, true_and] at h
  exact ⟨h.1, Tr.of_side h.2⟩
 | .e1 a b k, h => by
  simp only [Tr.side, cond_true, cond_false, T2.e1.injEq, heq_eq_eq, true_and] at h
  exact ⟨h.1, Tr.of_side h.2⟩
 | .fn f, h => by
  simp only [Tr.side, T2.fn.injEq, heq_eq_eq, true_and] at h
  exact fun x => Tr.of_side (congrFun h x)
 | .f1 f, h => by
  simp only [Tr.side, T2.f1.injEq, heq_eq_eq, true_and] at h
  exact fun x => Tr.of_side (congrFun h x)
 | .fp p f, h => by
  simp only [Tr.side, T2.fp.injEq, heq_eq_eq, true_and] at h
  exact fun x => Tr.of_side (congrFun h x)
 | .an a b, h => by
  simp only [Tr.side, T2.an.injEq] at h
  exact ⟨Tr.of_side h.1, Tr.of_side h.2⟩

/-! ### Values -/
structure Hd where
 ao : Option Addr
 n : Nat
 cap : Nat
def Hd.val (h : Hd) : Value := .slice h.ao h.n h.cap
inductive Sc
 | vl (x : Value)
 | bo (e : Bool)
 | pt (j b k o : Nat)
 | rf (j : Nat) (h : Hd)
 | lt (j b n : Nat)
def Sc.val : Sc → Value
 | .vl x => x
 | .bo e => .bool e
 | .pt _ b k o => .pointer (some ⟨b, k + o, none⟩)
 | .rf _ h => h.val
 | .lt _ b n => .slice (some ⟨b, 0, none⟩) n n
def sc : Value → Sc
 | .bool e => .bo e
 | x => .vl x
theorem jR (x : Value) : (sc x).val = x := by
 unfold sc; split <;> rfl
theorem Sl.hd {α : Type} [Shape α] {w : World} {v : Value} {xs : List α} {fp : List Nat} (h : Sl w v xs fp) : ∃ hd : Hd, v = hd.val ∧ hd.n = xs.length := by
 obtain ⟨ao, cap, rfl, _⟩ := h
 exact ⟨⟨ao, xs.length, cap⟩, rfl, rfl⟩
inductive TV
 | ce (x : Sc)
 | ag (l : List Sc)
def TV.val : TV → Value
 | .ce x => x.val
 | .ag l => .agg (l.map Sc.val).toArray
inductive SV
 | on (t : TV)
 | tu (l : List TV)
def SV.val : SV → Value
 | .on t => t.val
 | .tu l => .tuple (l.map TV.val).toArray

/-! ### How a value's cells stand: sG -/
inductive Lf : Type 1
 | v (x : Value)
 | s (β : Type) (i : Shape β) (ys : List β)
def eM (w : World) : List Value → List Lf → List Nat → Prop
 | [], [], fp => fp = []
 | c :: cs, .v u :: ls, fp => c = u ∧ eM w cs ls fp
 | c :: cs, .s β _ ys :: ls, fp => ∃ f1 f2, Sl w c ys f1 ∧ eM w cs ls f2 ∧ fp = f1 ++ f2
 | _, _, _ => False
class Dsh (α : Type) extends Shape α where
 lv : α → List Lf
 good : α → Prop
 out : ∀ {w cs x fp}, C w cs x fp → good x ∧ eM w cs (lv x) fp
 inn : ∀ {w cs x fp}, good x → eM w cs (lv x) fp → C w cs x fp

/-! ### What is borrowed; what is owned -/
structure Gr where
 p : World → Prop
 up : ∀ {w w' : World}, Below w.heap.size w w' → p w → p w'
def Gin (G : Option Gr) (w : World) : Prop :=
 match G with
 | none => True
 | some g => g.p w
theorem Gin.up {G : Option Gr} {w w' : World} (h : Gin G w) (hb : Below w.heap.size w w') : Gin G w' := by
 cases G with
 | none => trivial
 | some g => exact g.up hb h
inductive Bo : Type 1
 | rg (b k : Nat) (cs : List Sc)
 | el (h : Hd) (z n b k : Nat) (cs : List Sc)
 | sl {α : Type} (i : Shape α) (h : Hd) (xs : List α) (fp : List Nat)
 | gr (g : Gr)
 | dv (h2 h1 : Hd) (a sz : Nat)
def Bo.holds (w : World) : Bo → Prop
 | .rg b k cs => w.rangeAt b k (cs.map Sc.val)
 | .el h z n b k cs => PA h.val z n b k ∧ w.rangeAt b k (cs.map Sc.val)
 | .sl _ h xs fp => Sl w h.val xs fp
 | .gr g => g.p w
 | .dv h2 h1 a sz => h2.val = sliced h1.ao a h1.n h1.cap sz
theorem Bo.up {w w' : World} (hb : Below w.heap.size w w') : ∀ {b : Bo}, b.holds w → b.holds w'
 | .rg _ _ _, h => eC h hb
 | .el _ _ _ _ _ _, h => ⟨h.1, eC h.2 hb⟩
 | .sl _ _ _ _, h => Sl.below h hb
 | .gr g, h => g.up hb h
 | .dv _ _ _ _, h => h
inductive Ob : Type 1
 | bx (b : Nat) (pre : List Value) (cs : List Sc) (post : List Value) (t : TypeId)
 | own {α : Type} (i : Shape α) (h : Hd) (xs : List α) (fp : List Nat)
 | row {α : Type} (i : Shape α) (e : TypeId) (h : Hd) (xs : List α) (fe : List Nat)
 | rs {α : Type} (i : Shape α) (h : Hd) (b : Nat) (pre post : List Value) (xs : List α) (n : Nat) (fr : List Nat) (r : Nat)
 | raw (r : Res)
def Ob.res : Ob → Res
 | .bx b pre cs post t => Res.bx b (pre ++ cs.map Sc.val ++ post) t
 | .own _ h xs fp => Res.own h.val xs fp
 | .row _ e h xs fe => Res.row e h.val xs fe
 | .rs _ h b pre post xs n fr _ => Res.rest h.val b pre post xs n fr
 | .raw r => r
structure S where
 E : List (Nat × SV)
 O : List (Nat × Ob)
 B : List (Nat × Bool × Bo)
 nx : Nat
def S.rs (s : S) : List Res := s.O.map fun p => p.2.res
def lku {α : Type u} : List (Nat × α) → Nat → Option α
 | [], _ => none
 | (t, v) :: E, x => cond (Nat.beq x t) (some v) (lku E x)
theorem mA {α : Type u} : ∀ {E : List (Nat × α)} {x : Nat} {v : α}, lku E x = some v → (x, v) ∈ E
 | [], _, _, h => by cases h
 | (t, v) :: E, x, u, h => by
  unfold lku at h
  cases hb : Nat.beq x t with
  | true => rw [hb] at h; simp only [cond_true, Option.some.injEq] at h; subst h; rw [Nat.eq_of_beq_eq_true hb]; exact mem_cons_self
  | false => rw [hb] at h; exact mem_cons_of_mem _ (mA h)
def Fr (E : List (Nat × SV)) (f : Nat → Value) : Prop := ∀ t x, lku E t = some x → f t = x.val
def Facts (w0 W : World) (B : List (Nat × Bool × Bo)) : Prop := ∀ e ∈ B, e.2.2.holds (cond e.2.1 w0 W)
theorem Facts.up {w0 W W' : World} {B : List (Nat × Bool × Bo)} (h : Facts w0 W B) (hb : Below W.heap.size W W') : Facts w0 W' B := by
 intro e he
 have := h e he
 cases hl : e.2.1 with
 | true => rw [hl] at this; exact this
 | false => rw [hl] at this; exact Bo.up hb this
theorem Facts.now {w0 W : World} {B : List (Nat × Bool × Bo)} (h : Facts w0 W B) (hb : Below w0.heap.size w0 W) {j : Nat} {l : Bool} {b : Bo} (hj : lku B j = some (l, b)) : b.holds W := by
 have := h _ (mA hj)
 cases l with
 | true => exact Bo.up hb this
 | false => exact this
def lasting : List (Nat × Bool × Bo) → List (Nat × Bool × Bo)
 | [] => []
 | (j, l, b) :: B => cond l ((j, l, b) :: lasting B) (lasting B)
theorem Facts.lasting {w0 W W' : World} : ∀ {B : List (Nat × Bool × Bo)}, Facts w0 W B → Facts w0 W' (lasting B)
 | [], _ => fun e he => by cases he
 | (j, l, b) :: B, h => by
  have ih := Facts.lasting (W' := W') (fun e he => h e (mem_cons_of_mem _ he))
  cases l with
  | true =>
   intro e he
   rcases mem_cons.1 he with rfl | he
   ·exact h _ mem_cons_self
   ·exact ih e he
  | false => exact ih
structure Den (w0 : World) (s : S) (f : Nat → Value) (W : World) : Prop where
 fr : Fr s.E f
 st : St w0 W s.rs
 fa : Facts w0 W s.B
theorem Fr.put {E : List (Nat × SV)} {f : Nat → Value} (h : Fr E f) (d : Nat) (x : SV) : Fr ((d, x) :: E) (dK f (some d) x.val) := by
 intro t u hx
 unfold lku at hx
 simp only [dK, upd]
 cases hb : Nat.beq t d with
 | true => rw [hb] at hx; simp only [cond_true, Option.some.injEq] at hx; rw [← hx]; rfl
 | false => rw [hb] at hx; exact h t u hx
theorem Fr.know {E : List (Nat × SV)} {f : Nat → Value} (h : Fr E f) (d : Nat) (x : SV) (he : f d = x.val) : Fr ((d, x) :: E) f := by
 intro t u hx
 unfold lku at hx
 cases hb : Nat.beq t d with
 | true => rw [hb] at hx; simp only [cond_true, Option.some.injEq] at hx; rw [← hx, Nat.eq_of_beq_eq_true hb]; exact he
 | false => rw [hb] at hx; exact h t u hx

def Res.pc (cs : List Value) (ls : List Lf) (fp : List Nat) : Res where
 fp := fp
 holds := fun W => eM W cs ls fp ∧ ∀ b ∈ fp, Wr W b
 loc := by
  intro W W' hs hb ⟨h, hw⟩
  refine ⟨?_, fun c hc => (hw c hc).loc (hb c hc)⟩
  clear hw
  induction ls generalizing cs fp with
  | nil => cases cs with
   | nil => exact h
   | cons c cs => exact h.elim
  | cons l ls ih =>
   cases cs with
   | nil => cases l <;> exact h.elim
   | cons c cs =>
    cases l with
    | v x => exact ⟨h.1, ih cs fp hb h.2⟩
    | s β i ys =>
     obtain ⟨f1, f2, h1, h2, rfl⟩ := h
     exact ⟨f1, f2, h1.loc (fun b hm o => gT (hb b (by simp [hm])) o) hs, ih cs f2 (fun b hm => hb b (by simp [hm])) h2, rfl⟩
 wr := fun h => h.2
inductive Par : Type 1
 | v (x : Value)
 | b (e : Bool)
 | st {α : Type} (i : Dsh α) (x : α)
 | sl {β : Type} (i : Shape β) (xs : List β)
def Par.at (w : World) (u : Value) : Par → Prop
 | .v x => u = x
 | .b e => u = .bool e
 | .st i x => ∃ cs fp, u = .agg cs.toArray ∧ i.C w cs x fp
 | .sl i xs => ∃ fp, Sl w u xs fp
def Pars (w : World) : List Value → List Par → Prop
 | [], [] => True
 | u :: us, p :: ps => p.at w u ∧ Pars w us ps
 | _, _ => False
inductive Lr : Type 1
 | v (x : Value)
 | o {β : Type} (i : Shape β) (xs : List β)
 | r {β : Type} (i : Shape β) (e : TypeId) (xs : List β)
def LvR : List Value → List Lr → List Res → Prop
 | [], [], rs => rs = []
 | c :: cs, .v x :: ls, rs => c = x ∧ LvR cs ls rs
 | c :: cs, .o i xs :: ls, rs => ∃ fp r2, rs = Res.own c xs fp :: r2 ∧ LvR cs ls r2
 | c :: cs, .r i e xs :: ls, rs => ∃ fe r2, rs = Res.row e c xs fe :: r2 ∧ LvR cs ls r2
 | _, _, _ => False
def lrs : List Lr → Prop
 | [] => True
 | .v _ :: ls => lrs ls
 | .o _ xs :: ls => xs.length ≤ 9223372036854775807 ∧ lrs ls
 | .r _ _ xs :: ls => xs.length ≤ 9223372036854775807 ∧ lrs ls
inductive Rk : Type 1
 | cl (ls : List Lr)
 | v (x : Value)
 | own {α : Type} (i : Dsh α) (x : α)
 | sl {β : Type} (i : Shape β) (xs : List β)
 | rw {β : Type} (i : Shape β) (e : TypeId) (xs : List β)
def Rk.at (u : Value) (rs : List Res) : Rk → Prop
 | .cl ls => ∃ cs, u = .agg cs.toArray ∧ LvR cs ls rs
 | .v x => u = x ∧ rs = []
 | .own i x => ∃ cs fp, u = .agg cs.toArray ∧ rs = [@Res.cs _ i.toShape cs x fp]
 | .sl i xs => ∃ fp, rs = [Res.own u xs fp]
 | .rw i e xs => ∃ fe, rs = [Res.row e u xs fe]
def Rks : List Value → List Rk → List Res → Prop
 | [], [], rs => rs = []
 | u :: us, k :: ks, rs => ∃ r1 r2, k.at u r1 ∧ Rks us ks r2 ∧ rs = r1 ++ r2
 | _, _, _ => False
def wO : List Value → Value
 | [u] => u
 | us => .tuple us.toArray
structure Cg (P : Program) (F : FuncId) (G : Option Gr) (ps : List Par) {A : Type} (R : A → Prop) (rk : A → List Rk) : Prop where
 run : ∀ w us, Gin G w → Pars w us ps → Calls P F us.toArray w fun e W => ∃ a vs rs, R a ∧ e = .returned (wO vs) ∧ Rks vs (rk a) rs ∧ St w W rs
abbrev Ct (P : Program) (F : FuncId) (ps : List Par) {A : Type} (R : A → Prop) (rk : A → List Rk) : Prop := Cg P F none ps R rk
abbrev Ct1 (P : Program) (F : FuncId) (ps : List Par) (rk : List Rk) : Prop := Ct P F ps (fun _ : Unit => True) (fun _ => rk)
structure Cm (P : Program) (F : FuncId) (ps : List Par) {α : Type} (i : Dsh α) (x : α) {A : Type} (R : A → Prop) (y : A → α) (rk : A → List Rk) : Prop where
 run : ∀ w W0 b pre post t cs fp us rs, St w W0 (Res.bx b (pre ++ cs ++ post) t :: Res.pc cs (i.lv x) fp :: rs) → Pars w us ps → Calls P F (Value.pointer (some ⟨b, pre.length, none⟩) :: us).toArray W0 fun e W =>
  ∃ a vs cs' fp' rr, R a ∧ e = .returned (wO vs) ∧ Rks vs (rk a) rr ∧ St w W (Res.bx b (pre ++ cs' ++ post) t :: Res.pc cs' (i.lv (y a)) fp' :: (rr ++ rs))
structure Co (P : Program) (F : FuncId) (ow : List Lr) (ag : Bool) (ps : List Par) {A : Type} (R : A → Prop) (rk : A → List Rk) : Prop where
 run : ∀ w W0 cs r us rs, LvR cs ow r → St w W0 (r ++ rs) → Pars w us ps → Calls P F (cond ag (.agg cs.toArray) (cs.headD undef) :: us).toArray W0 fun e W =>
  ∃ a vs rr, R a ∧ e = .returned (wO vs) ∧ Rks vs (rk a) rr ∧ St w W (rr ++ rs)
def lns : List Lf → Prop
 | [] => True
 | .v _ :: ls => lns ls
 | .s _ _ ys :: ls => ys.length ≤ 9223372036854775807 ∧ lns ls
def Rk.gd : Rk → Prop
 | .cl ls => lrs ls
 | .v _ => True
 | .own i x => i.good x ∧ lns (i.lv x)
 | .sl _ xs => xs.length ≤ 9223372036854775807
 | .rw _ _ xs => xs.length ≤ 9223372036854775807
def gds : List Rk → Prop
 | [] => True
 | .v _ :: ks => gds ks
 | k :: ks => k.gd ∧ gds ks
def gin : List Par → Prop
 | [] => True
 | .st i x :: ps => (i.good x ∧ lns (i.lv x)) ∧ gin ps
 | .sl _ xs :: ps => xs.length ≤ 9223372036854775807 ∧ gin ps
 | _ :: ps => gin ps
def gps : List Par → Prop
 | [] => True
 | .st i x :: ps => i.good x ∧ gps ps
 | _ :: ps => gps ps

/-! ### States of loops: what changes -/
inductive Tc
 | v (x : Value)
 | b (e : Bool)
 | p (j o : Nat)
 | r (j : Nat)
inductive Tv
 | c (x : Tc)
 | a (l : List Tc)
inductive To : Type 1
 | own {α : Type} (i : Shape α) (xs : List α)
 | row {α : Type} (i : Shape α) (e : TypeId) (xs : List α)
 | bx (cs : List Tc)

/-! ### Operations of other kinds, by what is shown of them -/
def BOk (P : Program) (b : BinOp) (x y z : Value) : Prop := ∀ {n : Nat} {f : Nat → Value} {W : World} {Q : Exit → Act → World → Prop} {K : Value → World → Prop} {d : Option Tmp} {ty : TypeId} {pos : String} {af : Array Go.Edge} {g : Option (Nat × Bool)} {t t' : TypeId} {xo yo : Operand}, ev n f xo = x → ev n f yo = y → K z W → Stp P n ⟨d, .binOp b t xo yo t', ty, pos, af, g⟩ f W Q K
def NOk (P : Program) (t : TypeId) (x : Value) (r : Bool) : Prop := ∀ {n : Nat} {f : Nat → Value} {W : World} {Q : Exit → Act → World → Prop} {K : Value → World → Prop} {d : Option Tmp} {ty : TypeId} {pos : String} {af : Array Go.Edge} {g : Option (Nat × Bool)} {t' : TypeId} {xo : Operand}, ev n f xo = x → K (.bool r) W → Stp P n ⟨d, .binOp .neq t xo (.const .nilIface) t', ty, pos, af, g⟩ f W Q K
def UOk (P : Program) (u : UnOp) (x z : Value) : Prop := ∀ {n : Nat} {f : Nat → Value} {W : World} {Q : Exit → Act → World → Prop} {K : Value → World → Prop} {d : Option Tmp} {ty : TypeId} {pos : String} {af : Array Go.Edge} {g : Option (Nat × Bool)} {t : TypeId} {xo : Operand}, ev n f xo = x → K z W → Stp P n ⟨d, .unOp u t xo, ty, pos, af, g⟩ f W Q K
def COk (P : Program) (t t' : TypeId) (x z : Value) : Prop := ∀ {n : Nat} {f : Nat → Value} {W : World} {Q : Exit → Act → World → Prop} {K : Value → World → Prop} {d : Option Tmp} {ty : TypeId} {pos : String} {af : Array Go.Edge} {g : Option (Nat × Bool)} {xo : Operand}, ev n f xo = x → K z W → Stp P n ⟨d, .convert t t' xo, ty, pos, af, g⟩ f W Q K
def XOk (P : Program) (t : TypeId) (x y z : Value) : Prop := ∀ {n : Nat} {f : Nat → Value} {W : World} {Q : Exit → Act → World → Prop} {K : Value → World → Prop} {d : Option Tmp} {ty : TypeId} {pos : String} {af : Array Go.Edge} {g : Option (Nat × Bool)} {xo yo : Operand}, ev n f xo = x → ev n f yo = y → K z W → Stp P n ⟨d, .index t xo yo, ty, pos, af, g⟩ f W Q K
def LOk (P : Program) (t : TypeId) (x : Value) (lo hi : Option Value) (z : Value) : Prop := ∀ {n : Nat} {f : Nat → Value} {W : World} {Q : Exit → Act → World → Prop} {K : Value → World → Prop} {d : Option Tmp} {ty : TypeId} {pos : String} {af : Array Go.Edge} {g : Option (Nat × Bool)} {xo : Operand} {lo' hi' : Option Operand}, ev n f xo = x → lo'.map (ev n f) = lo → hi'.map (ev n f) = hi → K z W → Stp P n ⟨d, .slice t xo lo' hi' none, ty, pos, af, g⟩ f W Q K
structure Tok {Γ : Type} (J : Γ → Prop) (m : Γ → Nat) (c : Nat)
structure Lsp : Type 1 where
 {Γ : Type}
 J : Γ → Prop
 m : Γ → Nat
 c : Nat
structure Jsp : Type 1 where
 {Γ : Type}
 J : Γ → Prop
inductive D (P : Program) {A : Type} (R : A → Prop) : Type 1
 | sp (p : Prop) (i : Decidable p) (t : p → D P R) (f : ¬ p → D P R)
 | sn (p : Prop) (i : Decidable p) (t : ¬ p → D P R) (f : p → D P R)
 | sb (e : Bool) (t : e = true → D P R) (f : e = false → D P R)
 | kn (e r : Bool) (h : e = r) (k : D P R)
 | ad (x y : Int) (h : I64 (x + y)) (k : D P R)
 | su (x y : Int) (h : I64 (x - y)) (k : D P R)
 | mu (x y : Int) (h : I64 (x * y)) (k : D P R)
 | qu (x y : Int) (h : (0 ≤ x ∧ x ≤ 9223372036854775807) ∧ 0 < y) (k : D P R)
 | ix {α : Type} (i : Dsh α) (xs : List α) (n : Nat) (x : α) (h : xs[n]? = some x) (e : Int) (he : e = n) (k : i.good x → D P R)
 | iy (j n : Nat) (e : Int) (he : e = n) (k : D P R)
 | cl {ps : List Par} {A' : Type} {R' : A' → Prop} {rk : A' → List Rk} {G : Option Gr} (F : FuncId) {fn : Func} (hf : P.funcs[F]? = some fn) (h : Cg P F G ps R' rk) (hg : gps ps) (k : ∀ a, R' a → gds (rk a) → D P R)
 | lp {Γ : Type} (J : Γ → Prop) (m : Γ → Nat) (ks ko kb : List Nat) (TE : Γ → List (Nat × Tv)) (TO : Γ → List (Nat × To)) (g : Γ) (h : J g) (sg : List (Nat × Nat)) (k : ∀ g, J g → Tok J m (m g) → D P R)
 | nx {Γ : Type} {J : Γ → Prop} {m : Γ → Nat} {c : Nat} (t : Tok J m c) (g : Γ) (h1 : J g) (h2 : m g < c) (sg : List (Nat × Nat))
 | rt (a : A) (h : R a)
 | ex {α : Type} {p : α → Prop} (h : ∃ x, p x) (k : ∀ x, p x → D P R)
 | oc {p q : Prop} (h : p ∨ q) (a : p → D P R) (b : q → D P R)
 | ab (h : False)
 | em {α : Type} (i : Shape α) (k : D P R)
 | li {α : Type} (i : Dsh α) (t : Nat) (ys : List α) (hne : ys ≠ []) (hl : ys.length ≤ 1000000) (h : ∀ y ∈ ys, i.good y) (k : D P R)
 | lr {α : Type} (i : Dsh α) (hp : @kC α i.toShape) (t : Nat) (ys : List α) (hl : ys.length ≤ 1000000) (h : ∀ y ∈ ys, i.good y) (k : D P R)
 | rd {α : Type} (i : Shape α) (r j : Nat) (xs : List α) (n : Nat) (h : n ≤ xs.length) (k : D P R)
 | td {α : Type} (i : Shape α) (xs : List α) (a b : Nat) (h : a ≤ b ∧ b ≤ xs.length) (ea eb : Int) (hea : ea = a) (heb : eb = b) (k : D P R)
 | ap {α : Type} (i : Dsh α) (xs ys : List α) (h : ∀ y ∈ ys, i.good y) (bytes : Nat) (h63 : xs.length + ys.length ≤ maxLen) (hby : (xs.length + ys.length) * bytes ≤ 140737488355328) (k : D P R)
 | cq {ps : List Par} {rk : List Rk} {G : Option Gr} (F : FuncId) {fn : Func} (hf : P.funcs[F]? = some fn) (h : Cg P F G ps (fun _ : Unit => True) (fun _ => rk)) (hg : gps ps) (k : gds rk → D P R)
 | sa (x y : ByteArray) (h : x.size + y.size ≤ 9223372036854775807) (k : D P R)
 | qe {cs ds : List Value} {t : TypeId} {b : Bool} (h : SEq P t cs ds b) (hg : P.eqGuardType P.depth t = false) (k : D P R)
 | tk {α : Type} (i : Shape α) (xs : List α) (n : Nat) (h : n ≤ xs.length) (e : Int) (he : e = n) (k : D P R)
 | dp {α : Type} (i : Shape α) (xs : List α) (n : Nat) (h : n ≤ xs.length) (e : Int) (he : e = n) (k : D P R)
 | as {α : Type} (i : Shape α) (hp : kC α) (xs ys : List α) (bytes : Nat) (h63 : xs.length + ys.length ≤ maxLen) (hby : (xs.length + ys.length) * bytes ≤ 140737488355328) (k : D P R)
 | pb (b : BinOp) {x y z : Value} (h : BOk P b x y z) (k : D P R)
 | pn (t : TypeId) (x : Value) (r : Bool) (h : NOk P t x r) (k : D P R)
 | pu (u : UnOp) {x z : Value} (h : UOk P u x z) (k : D P R)
 | pc {t t' : TypeId} {x z : Value} (h : COk P t t' x z) (k : D P R)
 | px {t : TypeId} {x y z : Value} (h : XOk P t x y z) (k : D P R)
 | pl {t : TypeId} {x : Value} {lo hi : Option Value} {z : Value} (h : LOk P t x lo hi z) (k : D P R)
 | so (bs : List UInt8) (k : D P R)
 | by_ (s : ByteArray) (h : s.size ≤ maxLen) (k : D P R)
 | le {α : Type} (i : Dsh α) (j : Nat) (xs : List α) (n : Nat) (x : α) (h : xs[n]? = some x) (k : i.good x → D P R)
 | gi {α : Type} (i : Dsh α) (j : Nat) (xs : List α) (y : α) (h : i.good y) (k : D P R)
 | il (n : Nat) (e : Int) (he : e = n) (k : D P R)
 | cm {ps : List Par} {α : Type} {i : Dsh α} {x : α} {A' : Type} {R' : A' → Prop} {y : A' → α} {rk : A' → List Rk} (F : FuncId) {fn : Func} (hf : P.funcs[F]? = some fn) (h : Cm P F ps i x R' y rk) (hg : gps ps) (k : ∀ a, R' a → lns (i.lv (y a)) → gds (rk a) → D P R)
 | rw {α : Type} (i : Shape α) (j : Nat) (xs ys : List α) (h : xs = ys) (k : D P R)
 | r0 {α : Type} (i : Shape α) (e : TypeId) (k : D P R)
 | dq {α : Type} (i : Shape α) (hp : kC α) (xs : List α) (n : Nat) (h : n ≤ xs.length) (e : Int) (he : e = n) (k : D P R)
 | rv (t : Nat) (x : Value) {y : Value} (h : y = x) (k : D P R)
 | rn {α : Type} (i : Shape α) (e : TypeId) (t : Nat) (k : D P R)
 | ul (n : Nat) (k : D P R)
 | sh (j : Nat) (k : D P R)
 | wt (t : Nat) (k : D P R)
 | co {ps : List Par} {ow : List Lr} {ag : Bool} {A' : Type} {R' : A' → Prop} {rk : A' → List Rk} (F : FuncId) {fn : Func} (hf : P.funcs[F]? = some fn) (h : Co P F ow ag ps R' rk) (hg : gps ps) (k : ∀ a, R' a → gds (rk a) → D P R)
 | lx {Γ : Type} (J : Γ → Prop) (m : Γ → Nat) (ks ko kb : List Nat) (TE : Γ → List (Nat × Tv)) (TO : Γ → List (Nat × To)) (g : Γ) (h : J g) (sg : List (Nat × Nat)) (k : ∀ g, J g → Tok J m (m g) → D P R)
   {Δ : Type} (Je : Δ → Prop) (ex : Nat) (ks2 ko2 kb2 : List Nat) (TE2 : Δ → List (Nat × Tv)) (TO2 : Δ → List (Nat × To)) (k2 : ∀ g, Je g → D P R)
 | jc {Δ : Type} (Je : Δ → Prop) (ks2 ko2 kb2 : List Nat) (TE2 : Δ → List (Nat × Tv)) (TO2 : Δ → List (Nat × To)) (k : D P R) (k2 : ∀ g, Je g → D P R)
 | xt {Δ : Type} (Je : Δ → Prop) (g : Δ) (h : Je g) (sg : List (Nat × Nat))
 | bs (xs : List UInt8) (b : ByteArray) (h63 : xs.length + b.size ≤ maxLen) (hby : xs.length + b.size ≤ 140737488355328) (k : D P R)
 | lj {α : Type} (i : Dsh α) (r o : Nat) (ys : List α) (hne : ys ≠ []) (hl : ys.length ≤ 1000000) (h : ∀ y ∈ ys, i.good y) (k : D P R)
section
variable {P : Program} {A : Type} {R : A → Prop}
def nrm : D P R → (D P R → Tr) → Tr
 | .ex (p := p) _ k, K => .fn fun x => .fp (p x) fun hx => nrm (k x hx) K
 | .oc (p := p) (q := q) _ a b, K => .an (.fp p fun h => nrm (a h) K) (.fp q fun h => nrm (b h) K)
 | .ab _, _ => .ok
 | d, K => K d
theorem dZ {G : Prop} : ∀ {d : D P R} {K : D P R → Tr}, (nrm d K).holds → (∀ d', (K d').holds → G) → G := by
 intro d
 induction d with
 | ex h k ih =>
  intro K hh kk
  obtain ⟨x, hx⟩ := h
  exact ih x hx (hh x hx) kk
 | oc h a b iha ihb =>
  intro K hh kk
  rcases h with h | h
  ·exact iha h (hh.1 h) kk
  exact ihb h (hh.2 h) kk
 | ab h => exact fun _ _ => h.elim
 | _ => exact fun hh kk => kk _ hh
def bl (c : Sc) (d : D P R) (K : Bool → D P R → Tr) : Tr :=
 match c with
 | .vl (.bool true) => K true d
 | .vl (.bool false) => K false d
 | .bo e => nrm d fun d => match d with
  | .sp p i t f => .e0 e (@decide p i) (.an (.fp p fun h => K true (t h)) (.fp (¬ p) fun h => K false (f h)))
  | .sn p i t f => .e0 e (!@decide p i) (.an (.fp (¬ p) fun h => K true (t h)) (.fp p fun h => K false (f h)))
  | .sb e' t f => .e0 e e' (.an (.fp (e' = true) fun h => K true (t h)) (.fp (e' = false) fun h => K false (f h)))
  | .kn e' r _ k => .e0 e e' (K r k)
  | _ => .no
 | _ => .no
theorem aJ2 {G : Prop} {c : Sc} {d : D P R} {K : Bool → D P R → Tr} (h : (bl c d K).holds) (k : ∀ r d', c.val = .bool r → (K r d').holds → G) : G := by
 unfold bl at h
 split at h
 ·exact k true _ rfl h
 ·exact k false _ rfl h
 ·next e =>
  refine dZ h fun d' h => ?_
  split at h
  ·next p i t f =>
   obtain ⟨rfl, h1, h2⟩ := h
   by_cases hp : p
   ·exact k true _ (by simp [Sc.val, hp]) (h1 hp)
   exact k false _ (by simp [Sc.val, hp]) (h2 hp)
  ·next p i t f =>
   obtain ⟨rfl, h1, h2⟩ := h
   by_cases hp : p
   ·exact k false _ (by simp [Sc.val, hp]) (h2 hp)
   exact k true _ (by simp [Sc.val, hp]) (h1 hp)
  ·next e' t f =>
   obtain ⟨rfl, h1, h2⟩ := h
   cases he : e
   ·exact k false _ (by rw [he]; rfl) (h2 he)
   exact k true _ (by rw [he]; rfl) (h1 he)
  ·next e' r hr kk =>
   obtain ⟨rfl, h1⟩ := h
   exact k r _ (by simp [Sc.val, hr]) h1
  exact h.elim
 exact h.elim
end
end Go.Proofs.YtanpcpoogkdlaaaGreat
namespace Go.Proofs.YtanpcpoogkdlaaaGreat
set_option linter.unusedSimpArgs false
set_option linter.unusedVariables false
set_option maxHeartbeats 1000000
set_option maxHeartbeats 2000000
open Go.RowKit Go.Proofs.Tryz List

structure Dat : Type 1 where
 {α : Type}
 i : Shape α
 xs : List α
def wN (s : S) (j : Nat) : Option (Bool × Hd × Dat) :=
 match lku s.O j with
 | some (.own i h xs _) => some (false, h, ⟨i, xs⟩)
 | some (.row i _ h xs _) => some (false, h, ⟨i, xs⟩)
 | some _ => none
 | none => match lku s.B j with
  | some (l, .sl i h xs _) => some (l, h, ⟨i, xs⟩)
  | _ => none
def grT (s : S) (G : Option Gr) (k : Tr) : Tr :=
 match G with
 | none => k
 | some g => match lku s.B 999999 with
  | some (_, .gr g') => .e0 g' g k
  | _ => .no
theorem aE1 {s : S} {G : Option Gr} {k : Tr} {w0 W : World} (h : (grT s G k).holds) (hb : Below w0.heap.size w0 W) (fa : Facts w0 W s.B) : Gin G W ∧ k.holds := by
 cases G with
 | none => exact ⟨trivial, h⟩
 | some g =>
  unfold grT at h
  simp only at h
  split at h
  ·next l g' hj =>
   obtain ⟨rfl, hk⟩ := h
   exact ⟨fa.now hb hj, hk⟩
  exact h.elim
theorem tU {O : List (Nat × Ob)} {j : Nat} {o : Ob} (h : lku O j = some o) : o.res ∈ O.map fun p => p.2.res := mem_map.2 ⟨_, mA h, rfl⟩
theorem kJ {s : S} {j : Nat} {l : Bool} {h : Hd} {d : Dat} {w0 W : World} (e : wN s j = some (l, h, d)) (st : St w0 W s.rs) (fa : Facts w0 W s.B) : ∃ fp, @Sl d.α d.i (cond l w0 W) h.val d.xs fp := by
 unfold wN at e
 split at e
 ·next i h' xs fp hj =>
  simp only [Option.some.injEq, Prod.mk.injEq] at e
  obtain ⟨rfl, rfl, rfl⟩ := e
  exact ⟨_, aR (st.holds _ (tU hj))⟩
 ·next i te h' xs fp hj =>
  simp only [Option.some.injEq, Prod.mk.injEq] at e
  obtain ⟨rfl, rfl, rfl⟩ := e
  exact ⟨_, cN (st.holds _ (tU hj))⟩
 ·cases e
 split at e
 ·next l' i h' xs fp hj =>
  simp only [Option.some.injEq, Prod.mk.injEq] at e
  obtain ⟨rfl, rfl, rfl⟩ := e
  exact ⟨fp, fa _ (mA hj)⟩
 cases e
def rgOf (s : S) (j : Nat) : Option (Nat × Nat × List Sc) :=
 match lku s.O j with
 | some (.bx b pre cs _ _) => some (b, pre.length, cs)
 | some _ => none
 | none => match lku s.B j with
  | some (_, .rg b k cs) => some (b, k, cs)
  | some (_, .el _ _ _ b k cs) => some (b, k, cs)
  | _ => none
theorem yR {s : S} {j b k : Nat} {cs : List Sc} {w0 W : World} (e : rgOf s j = some (b, k, cs)) (st : St w0 W s.rs) (fa : Facts w0 W s.B) : W.rangeAt b k (cs.map Sc.val) := by
 unfold rgOf at e
 split at e
 ·next hj =>
  simp only [Option.some.injEq, Prod.mk.injEq] at e
  obtain ⟨rfl, rfl, rfl⟩ := e
  exact uW (st.holds _ (tU hj))
 ·cases e
 split at e
 ·next hj =>
  simp only [Option.some.injEq, Prod.mk.injEq] at e
  obtain ⟨rfl, rfl, rfl⟩ := e
  exact fa.now st.below hj
 ·next hj =>
  simp only [Option.some.injEq, Prod.mk.injEq] at e
  obtain ⟨rfl, rfl, rfl⟩ := e
  exact (fa.now st.below hj).2
 cases e

section
variable {P : Program} {A : Type} {R : A → Prop}
def sG (l : Bool) : List Lf → S → (List Sc → S → Tr) → Tr
 | [], s, K => K [] s
 | .v x :: ls, s, K => sG l ls s fun cs s => K (sc x :: cs) s
 | .s _ i ys :: ls, s, K => .fn fun g : Hd × List Nat => sG l ls ⟨s.E, s.O, (s.nx, l, .sl i g.1 ys g.2) :: s.B, s.nx + 1⟩ fun cs s' => K (.rf s.nx g.1 :: cs) s'
theorem nZ {G : Prop} {l : Bool} {w0 W : World} : ∀ {ls : List Lf} {s : S} {K : List Sc → S → Tr} {cs : List Value} {fp : List Nat}, (sG l ls s K).holds → eM (cond l w0 W) cs ls fp → Facts w0 W s.B →
  (∀ scs s', (K scs s').holds → scs.map Sc.val = cs → s'.E = s.E → s'.O = s.O → Facts w0 W s'.B → G) → G
 | [], s, K, [], fp, h, hc, fa, k => k [] s h rfl rfl rfl fa
 | [], s, K, c :: cs, fp, h, hc, fa, k => hc.elim
 | .v x :: ls, s, K, [], fp, h, hc, fa, k => hc.elim
 | .s _ _ _ :: ls, s, K, [], fp, h, hc, fa, k => hc.elim
 | .v x :: ls, s, K, c :: cs, fp, h, hc, fa, k => by
  refine nZ (K := fun cs s => K (sc x :: cs) s) h hc.2 fa fun scs s' h' e1 e2 e3 fa' => k _ s' h' ?_ e2 e3 fa'
  rw [map_cons, jR, e1, hc.1]
 | .s _ i ys :: ls, s, K, c :: cs, fp, h, hc, fa, k => by
  obtain ⟨f1, f2, h1, h2, _⟩ := hc
  obtain ⟨hd, rfl, hn⟩ := h1.hd
  refine nZ (K := fun cs s' => K (.rf s.nx hd :: cs) s') (h (hd, f1)) h2 ?_ fun scs s' h' e1 e2 e3 fa' => k _ s' h' ?_ e2 e3 fa'
  ·intro e he
   rcases mem_cons.1 he with rfl | he
   ·exact h1
   ·exact fa e he
  ·rw [map_cons, e1]; rfl
def slT {α : Type} (s : S) (c : Sc) (i : Shape α) (ys : List α) (k : Tr) : Tr :=
 match c with
 | .rf j h => match wN s j with
  | some (_, h', d) => .e0 h h' (.e1 d ⟨i, ys⟩ k)
  | none => .no
 | .vl (.slice none 0 0) => .e1 (⟨i, []⟩ : Dat) ⟨i, ys⟩ k
 | _ => .no
theorem aC8 {α : Type} {s : S} {c : Sc} {i : Shape α} {ys : List α} {k : Tr} {w0 W : World} (h : (slT s c i ys k).holds) (st : St w0 W s.rs) (fa : Facts w0 W s.B) : (∃ fp, Sl W c.val ys fp) ∧ k.holds := by
 unfold slT at h
 split at h
 ·next j hd =>
  split at h
  ·next l h' d hj =>
   obtain ⟨rfl, rfl, hk⟩ := h
   obtain ⟨fp, hs⟩ := kJ hj st fa
   refine ⟨⟨fp, ?_⟩, hk⟩
   cases l with
   | true => exact Sl.below hs st.below
   | false => exact hs
  exact h.elim
 ·obtain ⟨h1, hk⟩ := h
  simp only [Dat.mk.injEq, heq_eq_eq, true_and] at h1
  subst h1
  exact ⟨⟨[], nil_Sl⟩, hk⟩
 exact h.elim
def zF (s : S) : List Sc → List Lf → Tr → Tr
 | [], [], k => k
 | c :: cs, .v u :: ls, k => .e0 c.val u (zF s cs ls k)
 | c :: cs, .s _ i ys :: ls, k => slT s c i ys (zF s cs ls k)
 | _, _, _ => .no
theorem sU {s : S} {w0 W : World} (st : St w0 W s.rs) (fa : Facts w0 W s.B) : ∀ {cs : List Sc} {ls : List Lf} {k : Tr}, (zF s cs ls k).holds → (∃ fp, eM W (cs.map Sc.val) ls fp) ∧ k.holds
 | [], [], k, h => ⟨⟨[], rfl⟩, h⟩
 | c :: cs, .v u :: ls, k, h => by
  obtain ⟨h1, h2⟩ := h
  obtain ⟨⟨fp, h3⟩, hk⟩ := sU st fa h2
  exact ⟨⟨fp, h1, h3⟩, hk⟩
 | c :: cs, .s _ i ys :: ls, k, h => by
  obtain ⟨⟨f1, h1⟩, h2⟩ := aC8 h st fa
  obtain ⟨⟨f2, h3⟩, hk⟩ := sU st fa h2
  exact ⟨⟨f1 ++ f2, f1, f2, h1, h3, rfl⟩, hk⟩
 | [], .v _ :: _, _, h => h.elim
 | [], .s _ _ _ :: _, _, h => h.elim
 | _ :: _, [], _, h => h.elim
def lA (s : S) : List SV → List Par → Tr → Tr
 | [], [], k => k
 | .on (.ce c) :: us, .v x :: ps, k => .e0 c.val x (lA s us ps k)
 | .on (.ce c) :: us, .b e :: ps, k => .e0 c.val (.bool e) (lA s us ps k)
 | .on (.ag l) :: us, .st i x :: ps, k => zF s l (i.lv x) (lA s us ps k)
 | .on (.ce c) :: us, .sl i xs :: ps, k => slT s c i xs (lA s us ps k)
 | _, _, _ => .no
theorem kZ {s : S} {w0 W : World} (st : St w0 W s.rs) (fa : Facts w0 W s.B) : ∀ {us : List SV} {ps : List Par} {k : Tr}, (lA s us ps k).holds → gps ps → Pars W (us.map SV.val) ps ∧ k.holds := by
 intro us
 induction us with
 | nil =>
  intro ps k h hg
  cases ps with
  | nil => exact ⟨trivial, h⟩
  | cons p ps => exact h.elim
 | cons u us ih =>
  intro ps k h hg
  unfold lA at h
  split at h
  ·next heq1 => first | cases heq1 | (rename_i heq2; cases heq2)
  ·next c us' x ps' k' heq =>
   simp only [List.cons.injEq] at heq
   obtain ⟨rfl, rfl⟩ := heq
   obtain ⟨h1, h2⟩ := h
   obtain ⟨a, b⟩ := ih h2 hg
   exact ⟨⟨h1, a⟩, b⟩
  ·next c us' x ps' k' heq =>
   simp only [List.cons.injEq] at heq
   obtain ⟨rfl, rfl⟩ := heq
   obtain ⟨h1, h2⟩ := h
   obtain ⟨a, b⟩ := ih h2 hg
   exact ⟨⟨h1, a⟩, b⟩
  ·next _ _ _ l us' α i x ps' heq =>
   simp only [List.cons.injEq] at heq
   obtain ⟨rfl, rfl⟩ := heq
   obtain ⟨⟨fp, hc⟩, h2⟩ := sU st fa h
   obtain ⟨a, b⟩ := ih h2 hg.2
   exact ⟨⟨⟨_, fp, rfl, i.inn hg.1 hc⟩, a⟩, b⟩
  ·next c us' β i xs ps' k' heq =>
   simp only [List.cons.injEq] at heq
   obtain ⟨rfl, rfl⟩ := heq
   obtain ⟨hs, h2⟩ := aC8 h st fa
   obtain ⟨a, b⟩ := ih h2 hg
   exact ⟨⟨hs, a⟩, b⟩
  exact h.elim

/-! ### Steps that only read -/
def QS (P : Program) (lk : Operand → Option SV) (o : Op) (w0 W : World) (rs : List Res) (v : SV) : Prop :=
 ∀ {n : Nat} {f : Nat → Value} {W' : World} {Q : Exit → Act → World → Prop} {KK : Value → World → Prop} {d : Option Tmp} {ty : TypeId} {pos : String} {af : Array Go.Edge} {g : Option (Nat × Bool)},
  (∀ x u, lk x = some u → ev n f x = u.val) → St w0 W' rs → Below W.heap.size W W' → (∀ W'', St w0 W'' rs → Below W'.heap.size W' W'' → KK v.val W'') → Stp P n ⟨d, o, ty, pos, af, g⟩ f W' Q KK
def opt {α : Type u} (o : Option α) (K : α → Tr) : Tr :=
 match o with
 | some x => K x
 | none => .no
theorem aW {G : Prop} {α : Type u} {o : Option α} {K : α → Tr} (h : (opt o K).holds) (k : ∀ x, o = some x → (K x).holds → G) : G := by
 unfold opt at h
 split at h
 ·exact k _ rfl h
 exact h.elim
def asC (v : SV) (K : Sc → Tr) : Tr :=
 match v with
 | .on (.ce c) => K c
 | _ => .no
theorem cX {G : Prop} {v : SV} {K : Sc → Tr} (h : (asC v K).holds) (k : ∀ c, v = .on (.ce c) → (K c).holds → G) : G := by
 unfold asC at h
 split at h
 ·exact k _ rfl h
 exact h.elim
abbrev one (c : Sc) : SV := .on (.ce c)
def arT (b : BinOp) (x y : Sc) (d : D P R) (K : SV → D P R → Tr) : Tr :=
 nrm d fun d => match b, d with
  | .add, .ad a c _ k => .e0 x.val (I a) (.e0 y.val (I c) (K (one (.vl (I (a + c)))) k))
  | .sub, .su a c _ k => .e0 x.val (I a) (.e0 y.val (I c) (K (one (.vl (I (a - c)))) k))
  | .mul, .mu a c _ k => .e0 x.val (I a) (.e0 y.val (I c) (K (one (.vl (I (a * c)))) k))
  | .quo, .qu a c _ k => .e0 x.val (I a) (.e0 y.val (I c) (K (one (.vl (I (a / c)))) k))
  | .rem, .qu a c _ k => .e0 x.val (I a) (.e0 y.val (I c) (K (one (.vl (I (a % c)))) k))
  | _, _ => .no
theorem arT_ok {G : Prop} {lk : Operand → Option SV} {w0 W : World} {rs : List Res} {b : BinOp} {x y : Operand} {t t' : TypeId} {cx cy : Sc} {d : D P R} {K : SV → D P R → Tr} (hx : lk x = some (one cx)) (hy : lk y = some (one cy)) (h : (arT b cx cy d K).holds)
  (k : ∀ v d', (K v d').holds → QS P lk (.binOp b t x y t') w0 W rs v → G) : G := by
 unfold arT at h
 refine dZ h fun d' h => ?_
 split at h
 ·obtain ⟨h1, h2, h3⟩ := h
  refine k _ _ h3 ?_
  intro n f W' Q KK d ty pos af g hl hst hb hk
  exact bW ((hl _ _ hx).trans h1) ((hl _ _ hy).trans h2) (by assumption) (hk W' hst (Below.refl _ _))
 ·obtain ⟨h1, h2, h3⟩ := h
  refine k _ _ h3 ?_
  intro n f W' Q KK d ty pos af g hl hst hb hk
  exact tP ((hl _ _ hx).trans h1) ((hl _ _ hy).trans h2) (by assumption) (hk W' hst (Below.refl _ _))
 ·obtain ⟨h1, h2, h3⟩ := h
  refine k _ _ h3 ?_
  intro n f W' Q KK d ty pos af g hl hst hb hk
  exact aG6 ((hl _ _ hx).trans h1) ((hl _ _ hy).trans h2) (by assumption) (hk W' hst (Below.refl _ _))
 ·obtain ⟨h1, h2, h3⟩ := h
  refine k _ _ h3 ?_
  intro n f W' Q KK d ty pos af g hl hst hb hk
  have hi := ‹(_ ∧ _) ∧ _›
  exact aG4 ((hl _ _ hx).trans h1) ((hl _ _ hy).trans h2) hi.1 hi.2 (hk W' hst (Below.refl _ _))
 ·obtain ⟨h1, h2, h3⟩ := h
  refine k _ _ h3 ?_
  intro n f W' Q KK d ty pos af g hl hst hb hk
  have hi := ‹(_ ∧ _) ∧ _›
  exact aG3 ((hl _ _ hx).trans h1) ((hl _ _ hy).trans h2) hi.1 hi.2 (hk W' hst (Below.refl _ _))
 exact h.elim
def boT (P : Program) {A : Type} {R : A → Prop} (b : BinOp) (t : TypeId) (x y : Sc) (d : D P R) (K : SV → D P R → Tr) : Tr :=
 cond (isAr b) (arT b x y d K) (opt (cmp P t b x.val y.val) fun e => K (one (.bo e)) d)
theorem boT_ok {G : Prop} {lk : Operand → Option SV} {w0 W : World} {rs : List Res} {b : BinOp} {x y : Operand} {t t' : TypeId} {cx cy : Sc} {d : D P R} {K : SV → D P R → Tr} (hx : lk x = some (one cx)) (hy : lk y = some (one cy)) (h : (boT P b t cx cy d K).holds)
  (k : ∀ v d', (K v d').holds → QS P lk (.binOp b t x y t') w0 W rs v → G) : G := by
 unfold boT at h
 cases hb : isAr b with
 | true => rw [hb] at h; exact arT_ok hx hy h k
 | false =>
  rw [hb] at h
  refine aW h fun e he h => k _ _ h ?_
  intro n f W' Q KK d ty pos af g hl hst hb hk
  exact aO8 he (hl _ _ hx) (hl _ _ hy) (hk W' hst (Below.refl _ _))
def ldT (P : Program) (s : S) (t : TypeId) (c : Sc) (K : SV → Tr) : Tr :=
 match c with
 | .pt j b k o => opt (rgOf s j) fun r => .e0 b r.1 <| .e0 k r.2.1 <| opt (ldK P t) fun z => match z with
  | none => opt (r.2.2[o]?) fun v => K (one v)
  | some z => .e0 ((r.2.2.drop o).take z).length z (K (.on (.ag ((r.2.2.drop o).take z))))
 | _ => .no
theorem ldT_ok {G : Prop} {lk : Operand → Option SV} {w0 W : World} {s : S} {x : Operand} {t : TypeId} {c : Sc} {K : SV → Tr} (hx : lk x = some (one c)) (h : (ldT P s t c K).holds) (fa : Facts w0 W s.B)
  (k : ∀ v, (K v).holds → QS P lk (.load t x) w0 W s.rs v → G) : G := by
 unfold ldT at h
 split at h
 ·next j b0 k0 o =>
  refine aW h fun r hr h => ?_
  obtain ⟨b, kk, cs⟩ := r
  obtain ⟨h1, h2, h⟩ := h
  simp only at h1 h2
  subst h1 h2
  refine aW h fun z hz h => ?_
  have hv : ∀ {n f}, (∀ x u, lk x = some u → ev n f x = u.val) → ev n f x = .pointer (some ⟨b0, k0 + o, none⟩) := fun hl => hl _ _ hx
  cases z with
  | none =>
   refine aW h fun v hvv h => k _ h ?_
   intro n f W' Q KK d ty pos af g hl hst hb hk
   refine kW (cs := [v.val]) hz (hv hl) ?_ rfl (hk W' hst (Below.refl _ _))
   have hrg := yR hr hst (fa.up hb)
   intro q u hj
   cases q with
   | zero =>
    simp at hj; subst hj
    exact hrg o _ (by rw [getElem?_map]; simp only at hvv; rw [hvv]; rfl)
   | succ j => simp at hj
  | some z =>
   obtain ⟨h1, h⟩ := h
   simp only at h1
   refine k _ h ?_
   intro n f W' Q KK d ty pos af g hl hst hb hk
   have hrg := yR hr hst (fa.up hb)
   have := pE (i := o) (z := z) hrg
   refine kW (z := some z) (cs := ((cs.drop o).take z).map Sc.val) hz (hv hl) ?_ (by simpa using h1) (hk W' hst (Below.refl _ _))
   simpa [map_take, map_drop] using this
 exact h.elim
def ixT0 (P : Program) {A : Type} {R : A → Prop} (s : S) (t : TypeId) (c : Sc) (y : Sc) (d : D P R) (K : SV → S → D P R → Tr) : Tr :=
 nrm d fun d => match c, d with
  | .rf j h, .ix i xs n x _ e _ k => opt (wN s j) fun q => .e0 h q.2.1 <| .e1 q.2.2 ⟨i.toShape, xs⟩ <| .e0 y.val (I e) <| .e0 (elK P t) (some i.size) <|
    .fn fun g : Nat × Nat => sG q.1 (i.lv x) ⟨s.E, s.O, s.B, s.nx + 1⟩ fun cs s' => .fp (i.good x) fun hg => K (one (.pt s.nx g.1 g.2 0)) ⟨s'.E, s'.O, (s.nx, q.1, .el h i.size n g.1 g.2 cs) :: s'.B, s'.nx⟩ (k hg)
  | .rf j h, .iy r n e _ k => match lku s.B r with
   | some (l, .el h' z n' b o cs) => .e0 h h' <| .e0 n n' <| .e0 y.val (I e) <| .e0 (elK P t) (some z) <| K (one (.pt r b o 0)) s k
   | _ => .no
  | .rf j h, .il n e _ k => match lku s.O j with
   | some (.rs i h' b pre _ _ n' _ r) => .e0 h h' <| .e0 n n' <| .e0 y.val (I e) <| .e0 (elK P t) (some i.size) <| K (one (.pt r b pre.length 0)) s k
   | _ => .no
  | _, _ => .no
theorem PA_rest {α : Type} [Shape α] {v : Value} {b : Nat} {pre post : List Value} {xs : List α} {i : Nat} {fr : List Nat} {W : World} (h : (Res.rest v b pre post xs i fr).holds W) : PA v (Shape.size α) i b pre.length := by
 obtain ⟨⟨off, cap, f1, f2, p0, c1, c2, q0, h1, h2, h3, h4, h5, h6, h7, h8, h9, h10⟩, _⟩ := h
 refine ⟨off, xs.length, cap, h1, h4, ?_⟩
 rw [h5, length_append, h6, h8.len, length_take, Nat.min_eq_left aC]
theorem tQ {n : Nat} {f : Nat → Value} {W : World} {Q : Exit → Act → World → Prop} {K : Value → World → Prop} {d : Option Tmp} {ty : TypeId} {pos : String} {af : Array Go.Edge} {g : Option (Nat × Bool)} {x y : Operand} {t : TypeId} {kk i b o : Nat} {e : Int} {u : Value}
  (hk' : elK P t = some kk) (hx : ev n f x = u) (hp : PA u kk i b o) (hy : ev n f y = I e) (he : e = i) (k : K (.pointer (some ⟨b, o, none⟩)) W) : Stp P n ⟨d, .indexAddr t x y, ty, pos, af, g⟩ f W Q K := by
 unfold elK at hk'
 split at hk'
 ·next te hu =>
  obtain ⟨j, hj, hk'⟩ := Option.bind_eq_some_iff.1 hk'
  simp only [Option.some.injEq] at hk'
  obtain ⟨off, len, cap, rfl, hi, rfl⟩ := hp
  subst he
  refine Stp.run (v := .pointer (some ⟨b, off + i * kk, none⟩)) ?_ k
  have hel : P.elem t = te := by simp [Program.elem, hu]
  have hu2 : P.underlying t = some (.slice (P.elem t)) := by rw [hel]; exact hu
  have hlt : (i : Int) < len := by omega
  simp [execOp, hx, hy, Sem.run_bind, run_indexAt_slice (h := hu2), hel, hlt, sizeOf, typeInfo, hj, hk', Addr.add]
 cases hk'
theorem idxG {α : Type} (i : Dsh α) {w : World} {v : Value} {xs : List α} {fp : List Nat} (hs : @Sl α i.toShape w v xs fp) {n : Nat} {x : α} (h : xs[n]? = some x) : ∃ b k cs f1, PA v i.size n b k ∧ w.rangeAt b k cs ∧ i.good x ∧ eM w cs (i.lv x) f1 := by
 obtain ⟨hn, rfl⟩ := gsi_.1 h
 obtain ⟨b, k, cs, f1, h1, h2, h3, _⟩ := idx hs hn
 obtain ⟨h4, h5⟩ := i.out h3
 exact ⟨b, k, cs, f1, h1, h2, h4, h5⟩
theorem ixT0_ok {G : Prop} {lk : Operand → Option SV} {w0 W : World} {s : S} {x y : Operand} {t : TypeId} {cx cy : Sc} {d : D P R} {K : SV → S → D P R → Tr} (hx : lk x = some (one cx)) (hy : lk y = some (one cy)) (h : (ixT0 P s t cx cy d K).holds) (st : St w0 W s.rs) (fa : Facts w0 W s.B)
  (k : ∀ v s' d', (K v s' d').holds → s'.E = s.E → s'.O = s.O → Facts w0 W s'.B → QS P lk (.indexAddr t x y) w0 W s.rs v → G) : G := by
 unfold ixT0 at h
 refine dZ h fun d' h => ?_
 split at h
 ·next _ j hd α i xs m z hz e he kk _ =>
  refine aW h fun q hq h => ?_
  obtain ⟨l, hd', dd⟩ := q
  obtain ⟨h1, h2, h3, h4, h⟩ := h
  simp only at h1 h2
  subst h1 h2
  obtain ⟨fp, hs⟩ := kJ hq st fa
  obtain ⟨b, ko, cs, f1, g1, g2, g3, g4⟩ := idxG i hs hz
  refine nZ (h (b, ko)) g4 (s := ⟨s.E, s.O, s.B, s.nx + 1⟩) fa fun scs s' h' e1 e2 e3 fa' => (k _ _ _ (h' g3) e2 e3 ?_ ?_)
  ·intro e he
   rcases mem_cons.1 he with rfl | he
   ·exact ⟨g1, by rw [e1]; exact g2⟩
   exact fa' e he
  intro n f W' Q KK d ty pos af g hl hst hb hk
  exact tQ h4 (hl _ _ hx) g1 ((hl _ _ hy).trans h3) he (hk W' hst (Below.refl _ _))
 ·next _ _ j hd r m e he kk _ =>
  split at h
  ·next l hd' z m' b o cs hr =>
   obtain ⟨h1, h2, h3, h4, h⟩ := h
   subst h1 h2
   have hp := (fa.now st.below hr).1
   refine k _ _ _ h rfl rfl fa ?_
   intro n f W' Q KK d ty pos af g hl hst hb hk
   exact tQ h4 (hl _ _ hx) hp ((hl _ _ hy).trans h3) he (hk W' hst (Below.refl _ _))
  exact h.elim
 ·next _ _ j hd m e he kk _ =>
  split at h
  ·next hj =>
   obtain ⟨h1, h2, h3, h4, h⟩ := h
   subst h1 h2
   have hp := PA_rest (st.holds _ (tU hj))
   refine k _ _ _ h rfl rfl fa ?_
   intro n f W' Q KK d ty pos af g hl hst hb hk
   exact tQ h4 (hl _ _ hx) hp ((hl _ _ hy).trans h3) he (hk W' hst (Below.refl _ _))
  exact h.elim
 exact h.elim
theorem PA_lt {b n q z : Nat} (h : q < n) : PA (.slice (some ⟨b, 0, none⟩) n n) z q b (0 + q * z) := ⟨0, n, n, rfl, h, rfl⟩
def ixT (P : Program) {A : Type} {R : A → Prop} (s : S) (t : TypeId) (c : Sc) (y : Sc) (d : D P R) (K : SV → S → D P R → Tr) : Tr :=
 match c, y with
 | .lt j b n, .vl (.int .i64 (.ofNat q)) => .e0 (Nat.ble (q + 1) n) true <| opt (elK P t) fun z => K (one (.pt j b 0 (q * z))) s d
 | c, y => ixT0 P s t c y d K
theorem ixT_ok {G : Prop} {lk : Operand → Option SV} {w0 W : World} {s : S} {x y : Operand} {t : TypeId} {cx cy : Sc} {d : D P R} {K : SV → S → D P R → Tr} (hx : lk x = some (one cx)) (hy : lk y = some (one cy)) (h : (ixT P s t cx cy d K).holds) (st : St w0 W s.rs) (fa : Facts w0 W s.B)
  (k : ∀ v s' d', (K v s' d').holds → s'.E = s.E → s'.O = s.O → Facts w0 W s'.B → QS P lk (.indexAddr t x y) w0 W s.rs v → G) : G := by
 unfold ixT at h
 split at h
 ·next j b m q =>
  obtain ⟨h4, h⟩ := h
  refine aW h fun z hz h => k _ _ _ h rfl rfl fa ?_
  intro n f W' Q KK d ty pos af g hl hst hb hk
  exact tQ (e := (q : Int)) hz (hl _ _ hx) (PA_lt (Nat.le_of_ble_eq_true h4)) (hl _ _ hy) rfl (hk W' hst (Below.refl _ _))
 exact ixT0_ok hx hy h st fa k
end
end Go.Proofs.YtanpcpoogkdlaaaGreat
namespace Go.Proofs.YtanpcpoogkdlaaaGreat
set_option linter.unusedSimpArgs false
set_option linter.unusedVariables false
set_option maxRecDepth 100000
set_option maxHeartbeats 2000000
open Go.RowKit Go.Proofs.Tryz List
theorem PA.same {v : Value} {k i b o b' o' : Nat} (h : PA v k i b o) (h' : PA v k i b' o') : b = b' ∧ o = o' := by
 obtain ⟨off, len, cap, rfl, _, rfl⟩ := h
 obtain ⟨off', len', cap', e, _, rfl⟩ := h'
 injection e with e1 e2 e3
 injection e1 with e1
 injection e1 with e1 e4
 subst e1 e4
 exact ⟨rfl, rfl⟩
section
variable {P : Program} {n : Nat} {f : Nat → Value} {W w0 : World} {rs : List Res} {Q : Exit → Act → World → Prop} {K : Value → World → Prop}
 {d : Option Tmp} {ty : TypeId} {pos : String} {af : Array Go.Edge} {g : Option (Nat × Bool)} {α : Type} [Shape α]
theorem rP {t : TypeId} {x y : Operand} {b o i : Nat} {v u : Value} {xs : List α} {z : α} {fp : List Nat} (hs : Shape.size α = 1) (hi : (P.info? t).map (·.size) = some 1) (hx : ev n f x = .pointer (some ⟨b, o, none⟩)) (hPA : PA v (Shape.size α) i b o) (hl : i < xs.length) (hy : ev n f y = u) (h1 : u.cells = #[u]) (h2 : u.oneCell' = true)
  (hst : St w0 W (Res.own v xs fp :: rs)) (hc : ∀ W, Shape.C W [u] z []) (k : ∀ fp' W', St w0 W' (Res.own v (xs.set i z) fp' :: rs) → K undef W') : Stp P n ⟨d, .store t x y, ty, pos, af, g⟩ f W Q K := by
 obtain ⟨b', e, pre, cs, post, fi, fr, hPA', hC, st⟩ := St.lend (α := α) aC hst hl
 obtain ⟨rfl, rfl⟩ := hPA.same hPA'
 have hcl := Shape.len hC
 rw [hs] at hcl
 obtain ⟨c, rfl⟩ : ∃ c, cs = [c] := by
  cases cs with
  | nil => simp at hcl
  | cons c cs => cases cs with
   | nil => exact ⟨c, rfl⟩
   | cons _ _ => simp at hcl
 refine bB (i := 0) hi hx hy h1 h2 st rfl (Nat.le_refl _) rfl ?_
 intro W' st'
 have st2 := st'.d1
 have st3 := St.cs0 (cs := [u]) (x := z) st2 (hc W')
 have st4 := st3.f1
 obtain ⟨fp', st5⟩ := St.give (α := α) st4
 exact k fp' W' st5
theorem made_list (v : Value) (m : Nat) : (madeCells #[v] m).toList = List.replicate m v := by
 apply ext_getElem
 ·rw [Array.length_toList, size_madeCells, length_replicate]
 intro j h1 h2
 rw [getElem_replicate, Array.getElem_toList]
 simp [madeCells, Nat.mod_one]
theorem Elems.rep {W : World} {v : Value} {z : α} (h : Shape.C W [v] z []) : ∀ m, Elems W (List.replicate m v) (List.replicate m z) []
 | 0 => ⟨rfl, rfl⟩
 | m + 1 => ⟨[v], List.replicate m v, [], [], rfl, h, Elems.rep h m, rfl⟩
theorem xA {t e : TypeId} {bytes : Nat} {x y : Operand} {N : Nat} {v : Value} {z : α} (hT : ApOk P t e α bytes) (hzero : ((P.info? e).bind (·.zero)).map (·.cells) = some #[v]) (hx : ev n f x = I (N : Int)) (hy : ev n f y = I (N : Int)) (hN : N ≤ 1048576 * 64) (hb : N * bytes ≤ 140737488355328) (hst : St w0 W rs) (hz : ∀ W, Shape.C W [v] z [])
  (k : ∀ b fp W', Below W.heap.size W W' → St w0 W' (Res.own (.slice (some ⟨b, 0, none⟩) N N) (List.replicate N z) fp :: rs) → K (.slice (some ⟨b, 0, none⟩) N N) W') : Stp P n ⟨d, .makeSlice t x y, ty, pos, af, g⟩ f W Q K := by
 obtain ⟨i, zz, hi, hzz, h1, h2, h3⟩ := hT.info
 have hzc : zz.cells = #[v] := by simpa [hi, hzz] using hzero
 have hs1 : Shape.size α = 1 := by rw [← h3, hzc]; rfl
 have hb' : (N : Int) * (bytes : Int) ≤ 140737488355328 := by have := Int.ofNat_le.2 hb; rw [Int.natCast_mul] at this; exact this
 have hmk := run_make (P := P) W t e i zz hT.desc hi hzz .i64 .i64 N N aC aC (by rw [h2, Int.mul_comm]; omega) aC
 rw [Int.toNat_natCast, h1, hs1, Nat.mul_one, hzc] at hmk
 refine Stp.run (v := .slice (some ⟨W.heap.size, 0, none⟩) N N) (W' := W.alloc (.cells (madeCells #[v] N) e)) (by simp only [execOp, hx, hy, Sem.run_bind, hmk, Result.andThen_ok]; rfl) ?_
 have h := hst.alloc (madeCells #[v] N).toList e
 rw [Array.toArray_toList] at h
 have hbl : Below W.heap.size W (W.alloc (.cells (madeCells #[v] N) e)) := eT (Below.refl _ _)
 have h' : St w0 (W.alloc (.cells (madeCells #[v] N) e)) (Res.bx W.heap.size (List.replicate N v) e :: rs) := by
  rw [made_list] at h; exact h
 have hr := St.row_lit (α := α) (m := N) (ys := List.replicate N z) h' (by simp) (by unfold maxLen; omega) (Elems.rep (hz _) N)
 obtain ⟨fp, hr2⟩ := hr.shut
 exact k _ fp _ hbl hr2
end
section
variable {P : Program} {W : World}
end
theorem St.own_nil {α : Type} [Shape α] {w0 W : World} {rs : List Res} (h : St w0 W rs) : St w0 W (Res.own (.slice none 0 0) ([] : List α) [] :: rs) :=
 h.trade (rs1 := []) (rs2 := [Res.own (.slice none 0 0) ([] : List α) []]) (show ([] : List Nat).Nodup from nodup_nil) (fun b hb => absurd (show b ∈ ([] : List Nat) from hb) (by simp)) (by intro r hr; simp at hr; subst hr; exact ⟨nil_Sl.v, by simp⟩)
section
variable {α : Type} [Shape α]
theorem slq_h {w : World} {v : Value} {xs : List α} {fp : List Nat} {h : Nat} (hs : Sl w v xs fp) (hh : h ≤ xs.length) : ∃ u g, Sl w u (xs.take h) g ∧ (∀ c ∈ g, c ∈ fp) ∧
  ∀ {P : Program} {n : Nat} {f : Nat → Value} {W : World} {Q : Exit → Act → World → Prop} {K : Value → World → Prop} {d : Option Tmp} {ty : TypeId} {pos : String} {af : Array Go.Edge} {gd : Option (Nat × Bool)} {t t' : TypeId} {x y : Operand} {e : Int}, SlOk P t t' α → ev n f x = v → ev n f y = I e → e = h → K u W → Stp P n ⟨d, .slice t x none (some y) none, ty, pos, af, gd⟩ f W Q K := by
 obtain ⟨ao, cap, fp', rfl, hcap, hs', hf⟩ := hs.part 0 h (Nat.zero_le _) hh
 refine ⟨sliced ao 0 h cap (Shape.size α), fp', by simpa using hs', hf, ?_⟩
 intro P n f W Q K d ty pos af gd t t' x y e hT hx hy he k
 subst he
 have hel : P.elem t = t' := by simp [Program.elem, hT.desc]
 have hu : P.underlying t = some (.slice (P.elem t)) := by rw [hel]; exact hT.desc
 refine Stp.run (v := sliced ao 0 h cap (Shape.size α)) ?_ k
 simp only [execOp, hx, hy, Sem.run_bind, Option.map_none, Option.map_some]
 rw [run_sliceAt_slice (h := hu), run_slice_h (ht := hu) (h0 := by omega) (h2 := by omega), hel, gM hT.size]
 simp
theorem slq_l {w : World} {v : Value} {xs : List α} {fp : List Nat} {l : Nat} (hs : Sl w v xs fp) (hh : l ≤ xs.length) : ∃ u g, Sl w u (xs.drop l) g ∧ (∀ c ∈ g, c ∈ fp) ∧
  ∀ {P : Program} {n : Nat} {f : Nat → Value} {W : World} {Q : Exit → Act → World → Prop} {K : Value → World → Prop} {d : Option Tmp} {ty : TypeId} {pos : String} {af : Array Go.Edge} {gd : Option (Nat × Bool)} {t t' : TypeId} {x y : Operand} {e : Int}, SlOk P t t' α → ev n f x = v → ev n f y = I e → e = l → K u W → Stp P n ⟨d, .slice t x (some y) none none, ty, pos, af, gd⟩ f W Q K := by
 obtain ⟨ao, cap, fp', rfl, hcap, hs', hf⟩ := hs.part l xs.length hh (Nat.le_refl _)
 refine ⟨sliced ao l xs.length cap (Shape.size α), fp', by simpa using hs', hf, ?_⟩
 intro P n f W Q K d ty pos af gd t t' x y e hT hx hy he k
 subst he
 have hel : P.elem t = t' := by simp [Program.elem, hT.desc]
 have hu : P.underlying t = some (.slice (P.elem t)) := by rw [hel]; exact hT.desc
 refine Stp.run (v := sliced ao l xs.length cap (Shape.size α)) ?_ k
 simp only [execOp, hx, hy, Sem.run_bind, Option.map_none, Option.map_some]
 rw [run_sliceAt_slice (h := hu), run_slice_l (ht := hu) (h0 := by omega) (h1 := by omega), hel, gM hT.size]
 simp
end
section
variable {P : Program} {n : Nat} {f : Nat → Value} {W : World} {α : Type} [Shape α] [Agg α]
end
end Go.Proofs.YtanpcpoogkdlaaaGreat
