/-
  Regions and parts of regions whose operations only read or call, walked at once. Theory alone.
  The laws' copies: what they return is the call's own.
  The laws' measures.
  The laws' comparisons.
  Bits of small numbers: or, and, shifts.
  Shifts (a try).
  Bits of numbers that are no Nat by their form.
  Bytes of strings; xor; what stands for a number, and its sum.
  Numbers in bytes, read: the one number whose bytes stand at a place. Plain theory.
  TasksIn, of the program and of the reference.
  Slices of ints: what is their own is marked and held, two are compared, one is copied; small numbers within bounds.
  AllOver, LeftIn, EnoughFor, of the program and of the reference.
  The shelf of an id, of both.
  States of a call as data: what slots hold, what is owned, what is borrowed; and traces of what is to be equal. Theory alone.
  Contracts as data; what is told of a walk, as data. Theory alone.
  One operation, reckoned: those that only read. Theory alone.
  A store into an element of an owned slice; a made slice, all zeros.
  Functions without parameters; slices that are nil, owned out of nothing.
  Parts of slices, whose values are known ahead; three results, the first in a cell.
  One operation that only reads, of whatever kind. Theory alone.
  Operations that make memory, write, or call; a region's list; what goes out of use. Theory alone.
  Operations that make memory, write, or call. Theory alone.
-/
import Derived.Lib.QuoteBits
import Derived.Laws.IdiomStrings
import Derived.Test.YtanpcpoogkdlaaaGreatQ01
universe u
namespace Go.Proofs.YtanpcpoogkdlaaaGreat
set_option linter.unusedSimpArgs false
set_option linter.unusedVariables false
set_option maxRecDepth 100000
set_option maxHeartbeats 2000000
open Go.RowKit Go.Proofs.Tryz List
variable (w : World) {cs ds : List Value} {fp gp : List Nat}
def gdB (n : Nat) (l : List Oper) (E : List (Nat × Value)) (o : Oper) : Option Bool :=
 match o.guard with
 | none => some true
 | some (j, w) => (aZ l j).bind fun d => cond (Nat.ble (d + 1) n) ((gR E d).bind fun v => some (yl v == some w)) none
def push : Option Tmp → Value → List (Nat × Value) → List (Nat × Value)
 | some d, v, E => (d, v) :: E
 | none, _, E => E
def lkR (n : Nat) (ok : Nat → Nat → Bool) (i : Nat) (E : List (Nat × Value)) : Operand → Option Value
 | .tmp t => cond (ok i t) (lkO n E (.tmp t)) none
 | x => lkO n E x
def aC7 : Nat → Nat → Bool := fun _ _ => true
def okD (l : List Oper) (i t : Nat) : Bool :=
 (List.range i).any (fun j => (match aZ l j with | some d => Nat.beq d t | none => false) && dep l i j) || iG l i t
section
variable {P : Program} {w0 Ws : World} {rs : List Res}
def opC (lk : Operand → Option Value) (o : Op) (hs : List (Hn P w0 Ws rs)) : R1 P w0 Ws rs :=
 match o with
 | .call ⟨.value (.func F), xs, _⟩ => match hs with
  | .c F' _ _ _ args v _ :: hs => cond (Nat.beq F F') ((lks lk xs.toList).bind fun vs => some (v, (vs, args), hs)) none
  | _ => none
 | o => op1 lk o hs
def jK (step : (Operand → Option Value) → Op → List (Hn P w0 Ws rs) → R1 P w0 Ws rs) (n : Nat) (l : List Oper) (ok : Nat → Nat → Bool) : List Oper → Nat → Nat → List (Nat × Value) → List (Hn P w0 Ws rs) → Option (List Value × List (Nat × Value) × (List (List Value) × List (List Value)))
 | _, 0, _, E, _ => some ([], E, ([], []))
 | [], _ + 1, _, _, _ => none
 | o :: os, m + 1, i, E, hs => (gdB n l E o).bind fun b => cond b
   ((step (lkR n ok i E) o.op hs).bind fun r => (jK step n l ok os m (i + 1) (push o.dst r.1 E) r.2.2).bind fun q => some (r.1 :: q.1, q.2.1, (r.2.1.1 :: q.2.2.1, r.2.1.2 :: q.2.2.2)))
   ((jK step n l ok os m (i + 1) (push o.dst undef E) hs).bind fun q => some (undef :: q.1, q.2.1, q.2.2))
end
def cut : List Nat → List (Nat × Value) → List (Nat × Value)
 | [], E => E
 | t :: ws, E => cut ws (uL t E)
def side (b : Bool) (r : Option (List Value × List (Nat × Value) × (List (List Value) × List (List Value)))) (E' : List (Nat × Value)) : Option (List (List Value) × List (Option Value)) :=
 match r with
 | none => cond b none (some ([], []))
 | some q => cond b (some (q.2.2.1, E'.map (fun p => gR q.2.1 p.1))) (some (q.2.2.2, E'.map (fun p => some p.2)))
theorem rE {r : Option (List Value × List (Nat × Value) × (List (List Value) × List (List Value)))} {E' : List (Nat × Value)} (h : side true r E' = side false r E') : ∃ vs E1 L, r = some (vs, E1, (L, L)) ∧ ∀ f, Ag E1 f → Ag E' f := by
 cases r with
 | none => cases h
 | some q =>
  obtain ⟨vs, E1, L, R⟩ := q
  simp only [side, cond_true, cond_false, Option.some.injEq, Prod.mk.injEq] at h
  obtain ⟨rfl, h⟩ := h
  exact ⟨vs, E1, L, rfl, fun f hf => hf.to h⟩
section
variable {P : Program} {n : Nat} {f : Nat → Value} {W w0 Ws : World} {rs : List Res} {Q : Exit → Act → World → Prop}
theorem Ag.push {E : List (Nat × Value)} {d : Option Tmp} {v : Value} (h : Ag E f) : Ag (push d v E) (cZ f d v) := by
 cases d with
 | none => exact h
 | some d =>
  intro x u hx
  unfold Go.Proofs.YtanpcpoogkdlaaaGreat.push gR at hx
  simp only [cZ, upd]
  cases hb : Nat.beq x d with
  | true => rw [hb] at hx; simpa using hx
  | false => rw [hb] at hx; exact h x u hx
theorem aG7 {ok : Nat → Nat → Bool} {i : Nat} {E : List (Nat × Value)} (h : Ag E f) (x : Operand) (v : Value) (e : lkR n ok i E x = some v) : ev n f x = v := by
 cases x with
 | tmp t =>
  simp only [lkR] at e
  cases hb : ok i t with
  | true => rw [hb] at e; exact iW h _ _ e
  | false => rw [hb] at e; cases e
 | const u => exact iW h _ _ e
 | global g => exact iW h _ _ e
 | func g => exact iW h _ _ e
theorem yT {lk : Operand → Option Value} {d : Option Tmp} {ty : TypeId} {pos : String} {af : Array Go.Edge} {g : Option (Nat × Bool)} {hs hs' : List (Hn P w0 Ws rs)} {v : Value} {L R : List Value}
  (hl : ∀ x v, lk x = some v → ev n f x = v) (h1 : St w0 W rs) (h2 : Below Ws.heap.size Ws W) {o : Op} (h : opC lk o hs = some (v, (L, R), hs')) (e : L = R) : Stp P n ⟨d, o, ty, pos, af, g⟩ f W Q (fun u W' => u = v ∧ St w0 W' rs ∧ Below W.heap.size W W') := by
 unfold opC at h
 split at h
 ·next F xs ts =>
  split at h
  ·next F' fn hf ho args u hc hs2 =>
   cases hb : Nat.beq F F' with
   | false => rw [hb] at h; cases h
   | true =>
    rw [hb] at h
    simp only [cond_true] at h
    obtain ⟨vs, hvs, h⟩ := Option.bind_eq_some_iff.1 h
    simp only [Option.some.injEq, Prod.mk.injEq] at h
    obtain ⟨rfl, ⟨rfl, rfl⟩, _⟩ := h
    subst e
    have := Nat.eq_of_beq_eq_true hb
    subst this
    have hx := yU hl hvs
    have hq : xs = xs.toList.toArray := by simp
    rw [hq]
    refine iS hf ho hx ((hc W h1 h2).mono ?_)
    rintro en W' ⟨rfl, hst⟩
    exact ⟨_, rfl, rfl, h1.call hst, hst.below⟩
  cases h
 exact aG1 hl h1 h2 h e ⟨rfl, h1, Below.refl _ _⟩
theorem gd_on {l rest : List Oper} {E : List (Nat × Value)} {o : Oper} (hA : Ag E f) (hg : gdB n l E o = some true) (h : Stp P n o f W Q (fun v W' => Wl P l.toArray Q rest n (cZ f o.dst v) W')) : Wl P l.toArray Q (o :: rest) n f W := by
 unfold gdB at hg
 split at hg
 ·next hn => exact sx hn h
 next j w hn =>
 obtain ⟨dd, hd, hg⟩ := Option.bind_eq_some_iff.1 hg
 cases hb : Nat.ble (dd + 1) n with
 | false => rw [hb] at hg; cases hg
 | true =>
  rw [hb] at hg
  obtain ⟨v, hv, hg⟩ := Option.bind_eq_some_iff.1 hg
  simp only [Option.some.injEq] at hg
  refine zR hn (dd := dd) ?_ (Nat.le_of_ble_eq_true hb) ?_ h
  ·simpa [aZ] using hd
  rw [hA dd v hv]; simpa using hg
theorem aH4 {l rest : List Oper} {E : List (Nat × Value)} {o : Oper} (hA : Ag E f) (hg : gdB n l E o = some false) (h : Wl P l.toArray Q rest n (cZ f o.dst undef) W) : Wl P l.toArray Q (o :: rest) n f W := by
 unfold gdB at hg
 split at hg
 ·cases hg
 next j w hn =>
 obtain ⟨dd, hd, hg⟩ := Option.bind_eq_some_iff.1 hg
 cases hb : Nat.ble (dd + 1) n with
 | false => rw [hb] at hg; cases hg
 | true =>
  rw [hb] at hg
  obtain ⟨v, hv, hg⟩ := Option.bind_eq_some_iff.1 hg
  simp only [Option.some.injEq] at hg
  refine yK hn (dd := dd) ?_ (Nat.le_of_ble_eq_true hb) ?_ h
  ·simpa [aZ] using hd
  rw [hA dd v hv]; exact hg
theorem sJ {l : List Oper} {ok : Nat → Nat → Bool} (hst : St w0 W rs) (hbl : Below Ws.heap.size Ws W) : ∀ (m : Nat) {rest : List Oper} {i : Nat} {E E1 : List (Nat × Value)} {f : Nat → Value} {hs : List (Hn P w0 Ws rs)} {vs : List Value} {L R : List (List Value)},
  jK op1 n l ok rest m i E hs = some (vs, E1, (L, R)) → L = R → Ag E f → (∀ f', Ag E1 f' → Wl P l.toArray Q (rest.drop m) n f' W) → Wl P l.toArray Q rest n f W
 | 0, rest, i, E, E1, f, hs, vs, L, R, h, e, hA, k => by
  have h' : some (([] : List Value), E, (([] : List (List Value)), ([] : List (List Value)))) = some (vs, E1, (L, R)) := by cases rest <;> exact h
  simp only [Option.some.injEq, Prod.mk.injEq] at h'
  obtain ⟨_, rfl, _⟩ := h'
  simpa using k f hA
 | m + 1, [], i, E, E1, f, hs, vs, L, R, h, e, hA, k => by simp only [jK] at h; cases h
 | m + 1, o :: os, i, E, E1, f, hs, vs, L, R, h, e, hA, k => by
  simp only [jK] at h
  obtain ⟨b, hg, h⟩ := Option.bind_eq_some_iff.1 h
  cases b with
  | false =>
   simp only [cond_false] at h
   obtain ⟨q, hq, h⟩ := Option.bind_eq_some_iff.1 h
   simp only [Option.some.injEq, Prod.mk.injEq] at h
   obtain ⟨_, rfl, h3⟩ := h
   obtain ⟨qv, qE, qL, qR⟩ := q
   simp only [Prod.mk.injEq] at h3
   exact aH4 hA hg (sJ hst hbl m hq (by rw [h3.1, h3.2]; exact e) hA.push (fun f' hf => by simpa using k f' hf))
  | true =>
   simp only [cond_true] at h
   obtain ⟨r, hr, h⟩ := Option.bind_eq_some_iff.1 h
   obtain ⟨q, hq, h⟩ := Option.bind_eq_some_iff.1 h
   simp only [Option.some.injEq, Prod.mk.injEq] at h
   obtain ⟨_, rfl, rfl, rfl⟩ := h
   obtain ⟨rv, ⟨rL, rR⟩, rh⟩ := r
   simp only [List.cons.injEq] at e
   exact gd_on hA hg (aG1 (aG7 hA) hst hbl hr e.1 (sJ hst hbl m hq e.2 hA.push (fun f' hf => by simpa using k f' hf)))
theorem sK {l : List Oper} {ok : Nat → Nat → Bool} : ∀ (m : Nat) {rest : List Oper} {i : Nat} {W : World} {E E1 : List (Nat × Value)} {f : Nat → Value} {hs : List (Hn P w0 Ws rs)} {vs : List Value} {L R : List (List Value)}, St w0 W rs → Below Ws.heap.size Ws W →
  jK opC n l ok rest m i E hs = some (vs, E1, (L, R)) → L = R → Ag E f → (∀ f' W', Ag E1 f' → St w0 W' rs → Below Ws.heap.size Ws W' → Wl P l.toArray Q (rest.drop m) n f' W') → Wl P l.toArray Q rest n f W
 | 0, rest, i, W, E, E1, f, hs, vs, L, R, hst, hbl, h, e, hA, k => by
  have h' : some (([] : List Value), E, (([] : List (List Value)), ([] : List (List Value)))) = some (vs, E1, (L, R)) := by cases rest <;> exact h
  simp only [Option.some.injEq, Prod.mk.injEq] at h'
  obtain ⟨_, rfl, _⟩ := h'
  simpa using k f W hA hst hbl
 | m + 1, [], i, W, E, E1, f, hs, vs, L, R, hst, hbl, h, e, hA, k => by simp only [jK] at h; cases h
 | m + 1, o :: os, i, W, E, E1, f, hs, vs, L, R, hst, hbl, h, e, hA, k => by
  simp only [jK] at h
  obtain ⟨b, hg, h⟩ := Option.bind_eq_some_iff.1 h
  cases b with
  | false =>
   simp only [cond_false] at h
   obtain ⟨q, hq, h⟩ := Option.bind_eq_some_iff.1 h
   simp only [Option.some.injEq, Prod.mk.injEq] at h
   obtain ⟨_, rfl, h3⟩ := h
   obtain ⟨qv, qE, qL, qR⟩ := q
   simp only [Prod.mk.injEq] at h3
   exact aH4 hA hg (sK m hst hbl hq (by rw [h3.1, h3.2]; exact e) hA.push (fun f' W' hf => by simpa using k f' W' hf))
  | true =>
   simp only [cond_true] at h
   obtain ⟨r, hr, h⟩ := Option.bind_eq_some_iff.1 h
   obtain ⟨q, hq, h⟩ := Option.bind_eq_some_iff.1 h
   simp only [Option.some.injEq, Prod.mk.injEq] at h
   obtain ⟨_, rfl, rfl, rfl⟩ := h
   obtain ⟨rv, ⟨rL, rR⟩, rh⟩ := r
   simp only [List.cons.injEq] at e
   refine gd_on hA hg ((yT (aG7 hA) hst hbl hr e.1).mono ?_)
   rintro u W' ⟨rfl, h1, h2⟩
   exact sK m h1 (hbl.trans (h2.mono hbl.size)) hq e.2 hA.push (fun f' W' hf => by simpa using k f' W' hf)
theorem lw {ops : Array Oper} {rest : List Oper} {E : List (Nat × Value)} (hA : Ag E f) (E' : List (Nat × Value)) (e : E'.map (fun p => gR E p.1) = E'.map (fun p => some p.2)) (k : Ag E' f → Wl P ops Q rest n f W) : Wl P ops Q rest n f W := k (hA.to e)
theorem rn {l rest : List Oper} {E : List (Nat × Value)} (hst : St w0 W rs) (m : Nat) (hA : Ag E f) (ws : List Nat) (X : List (Nat × Value)) (hs : List (Hn P w0 W rs)) (h : side true (jK op1 n l aC7 rest m 0 E hs) (X ++ cut ws E) = side false (jK op1 n l aC7 rest m 0 E hs) (X ++ cut ws E))
  (k : ∀ f', Ag (X ++ cut ws E) f' → Wl P l.toArray Q (rest.drop m) n f' W) : Wl P l.toArray Q rest n f W := by
 obtain ⟨vs, E1, L, hr, hE⟩ := rE h
 exact sJ hst (Below.refl _ _) m hr rfl hA (fun f' hf => k f' (hE f' hf))
theorem rc {l rest : List Oper} {E : List (Nat × Value)} (hst : St w0 W rs) (m : Nat) (hA : Ag E f) (ws : List Nat) (X : List (Nat × Value)) (hs : List (Hn P w0 W rs)) (h : side true (jK opC n l aC7 rest m 0 E hs) (X ++ cut ws E) = side false (jK opC n l aC7 rest m 0 E hs) (X ++ cut ws E))
  (k : ∀ f' W', Ag (X ++ cut ws E) f' → St w0 W' rs → Below W.heap.size W W' → Wl P l.toArray Q (rest.drop m) n f' W') : Wl P l.toArray Q rest n f W := by
 obtain ⟨vs, E1, L, hr, hE⟩ := rE h
 exact sK m hst (Below.refl _ _) hr rfl hA (fun f' W' hf => k f' W' (hE f' hf))
/-! ### Regions that draw their order -/
def Pl.any (v : Value) : Pl := ⟨fun u _ => u = v, yl v, fun h _ => h, fun {_ _} e => by rw [e]⟩
def Inl (l : List Oper) (V : List Value) (E0 : List (Nat × Value)) (i : Nat) (E : List (Nat × Value)) : Prop :=
 ∀ t v, gR E t = some v → (∃ j, j < i ∧ aZ l j = some t ∧ V[j]? = some v) ∨ ((∀ j, j < i → aZ l j ≠ some t) ∧ gR E0 t = some v)
theorem Inl.push {l : List Oper} {V : List Value} {E0 E : List (Nat × Value)} {o : Oper} {v : Value} (h : Inl l V E0 V.length E) (ho : l[V.length]? = some o) : Inl l (V ++ [v]) E0 (V.length + 1) (push o.dst v E) := by
 have hdo : aZ l V.length = o.dst := by simp [aZ, ho]
 intro t u hu
 have old : gR E t = some u → o.dst ≠ some t → (∃ j, j < V.length + 1 ∧ aZ l j = some t ∧ (V ++ [v])[j]? = some u) ∨ ((∀ j, j < V.length + 1 → aZ l j ≠ some t) ∧ gR E0 t = some u) := by
  intro hu hne
  rcases h t u hu with ⟨j, hj, hd, hv⟩ | ⟨hn, he⟩
  ·exact .inl ⟨j, by omega, hd, by rw [getElem?_append_left hj]; exact hv⟩
  refine .inr ⟨fun j hj => ?_, he⟩
  by_cases e : j = V.length
  ·subst e; rw [hdo]; exact hne
  exact hn j aC
 cases hd : o.dst with
 | none => rw [hd] at hu; exact old hu (by rw [hd]; exact fun e => by cases e)
 | some d =>
  rw [hd] at hu
  unfold Go.Proofs.YtanpcpoogkdlaaaGreat.push gR at hu
  cases hb : Nat.beq t d with
  | true =>
   rw [hb] at hu
   simp only [cond_true, Option.some.injEq] at hu
   subst hu
   refine .inl ⟨V.length, by omega, ?_, by simp⟩
   rw [hdo, hd, Nat.eq_of_beq_eq_true hb]
  | false =>
   rw [hb] at hu
   refine old hu (fun e => ?_)
   rw [hd] at e
   simp only [Option.some.injEq] at e
   rw [e, dW] at hb; cases hb
theorem tM {V : List Value} {j : Nat} {v : Value} (h : V[j]? = some v) : (V.map Pl.any).getD j Pl.off = Pl.any v := by
 rw [getD_eq_getElem?_getD, getElem?_map, h]; rfl
theorem mS {l : List Oper} {f0 : Nat → Value} {E0 : List (Nat × Value)} (ho : OrdOk n l) (hA : Ag E0 f0) : ∀ (os : List Oper) {V vs : List Value} {E E1 : List (Nat × Value)} {hs : List (Hn P w0 Ws rs)} {L R : List (List Value)},
  (∀ k, os[k]? = l[V.length + k]?) → jK opC n l (okD l) os os.length V.length E hs = some (vs, E1, (L, R)) → L = R → Inl l V E0 V.length E →
  AllSteps P n Ws w0 rs Q l ((V ++ vs).map Pl.any) f0 V.length os (vs.map Pl.any) ∧ Inl l (V ++ vs) E0 (V.length + os.length) E1 ∧ vs.length = os.length
 | [], V, vs, E, E1, hs, L, R, hos, h, e, hI => by
  simp only [length_nil, jK, Option.some.injEq, Prod.mk.injEq] at h
  obtain ⟨rfl, rfl, _⟩ := h
  exact ⟨trivial, by simpa using hI, rfl⟩
 | o :: os, V, vs, E, E1, hs, L, R, hos, h, e, hI => by
  have hol : l[V.length]? = some o := by have := hos 0; simpa using this.symm
  have hil : V.length < l.length := (gsi_.1 hol).1
  simp only [length_cons, jK] at h
  obtain ⟨b, hg, h⟩ := Option.bind_eq_some_iff.1 h
  have hon : ∀ us : List Value, aD8 l ((V ++ us).map Pl.any) o = b := by
   intro us
   unfold gdB at hg
   unfold aD8
   split at hg
   ·next hn => simp only [Option.some.injEq] at hg; rw [← hg, hn]
   next j w hn =>
   obtain ⟨dd, hd, hg1⟩ := Option.bind_eq_some_iff.1 hg
   cases hb : Nat.ble (dd + 1) n with
   | false => rw [hb] at hg1; cases hg1
   | true =>
    rw [hb] at hg1
    obtain ⟨v, hv, hg2⟩ := Option.bind_eq_some_iff.1 hg1
    simp only [Option.some.injEq] at hg2
    obtain ⟨hdp, dd', hdd'⟩ := ho.guard _ o j w hol hn
    have hji := ho.lt _ _ hil hdp
    rcases hI dd v hv with ⟨j', hj', hd', hv'⟩ | ⟨hno, _⟩
    ·have : j' = j := by
      apply Classical.byContradiction
      intro hne
      exact ho.ne j' j dd aC aC hne hd' hd
     subst this
     rw [hn]
     show ((((V ++ us).map Pl.any).getD j' Pl.off).b == some w) = b
     rw [tM (v := v) (by rw [getElem?_append_left hj']; exact hv')]
     exact hg2
    exact absurd hd (hno j hji)
  have hlk : ∀ (us : List Value) (f : Nat → Value) (W : World), (∀ j d, dep l V.length j = true → aZ l j = some d → (((V ++ us).map Pl.any).getD j Pl.off).p (f d) W) → (∀ t, iG l V.length t = true → f t = f0 t) → ∀ x v, lkR n (okD l) V.length E x = some v → ev n f x = v := by
   intro us f W hd hf x v hx
   cases x with
   | tmp t =>
    simp only [lkR] at hx
    cases hb : okD l V.length t with
    | false => rw [hb] at hx; cases hx
    | true =>
     rw [hb] at hx
     simp only [cond_true, lkO] at hx
     cases hn : Nat.ble (t + 1) n with
     | false => rw [hn] at hx; cases hx
     | true =>
      rw [hn] at hx
      simp only [cond_true] at hx
      simp only [ev, hn, cond_true]
      unfold okD at hb
      rw [Bool.or_eq_true] at hb
      rcases hb with hb | hb
      ·rw [any_eq_true] at hb
       obtain ⟨j, hj, hb⟩ := hb
       rw [mem_range] at hj
       rw [Bool.and_eq_true] at hb
       have hjd : aZ l j = some t := by
        have := hb.1
        split at this
        ·next d hd => rw [hd, Nat.eq_of_beq_eq_true this]
        cases this
       rcases hI t v hx with ⟨j', hj', hd', hv'⟩ | ⟨hno, _⟩
       ·have : j' = j := by
         apply Classical.byContradiction
         intro hne
         exact ho.ne j' j t aC aC hne hd' hjd
        subst this
        have := hd j' t hb.2 hjd
        rw [tM (v := v) (by rw [getElem?_append_left hj']; exact hv')] at this
        exact this
       exact absurd hjd (hno j hj)
      rcases hI t v hx with ⟨j', hj', hd', hv'⟩ | ⟨hno, he⟩
      ·exfalso
       unfold iG at hb
       rw [all_eq_true] at hb
       have := hb j' (by rw [mem_range]; omega)
       rw [hd'] at this
       simp only [dW, Bool.not_true, Bool.or_false, Bool.or_eq_true] at this
       rcases this with h | h
       ·have := Nat.eq_of_beq_eq_true h; omega
       have := ho.lt _ _ aC h; omega
      rw [hf t hb]; exact hA t v he
   | const u => exact iW (f := f) (E := []) Ag.nil _ _ hx
   | global g => exact iW (f := f) (E := []) Ag.nil _ _ hx
   | func g => exact iW (f := f) (E := []) Ag.nil _ _ hx
  have hos' : ∀ (v : Value) k, os[k]? = l[(V ++ [v]).length + k]? := by
   intro v k
   have := hos (k + 1)
   rw [getElem?_cons_succ] at this
   rw [this, length_append, length_singleton, Nat.add_assoc, Nat.add_comm 1 k]
  cases b with
  | false =>
   simp only [cond_false] at h
   obtain ⟨q, hq, h⟩ := Option.bind_eq_some_iff.1 h
   simp only [Option.some.injEq, Prod.mk.injEq] at h
   obtain ⟨rfl, rfl, h3⟩ := h
   obtain ⟨qv, qE, qL, qR⟩ := q
   simp only [Prod.mk.injEq] at h3
   have hq' : jK opC n l (okD l) os os.length (V ++ [undef]).length (Go.Proofs.YtanpcpoogkdlaaaGreat.push o.dst undef E) hs = some (qv, qE, (qL, qR)) := by rw [length_append, length_singleton]; exact hq
   obtain ⟨a1, a2, a3⟩ := mS ho hA os (hos' undef) hq' (by rw [h3.1, h3.2]; exact e) (by have := hI.push (v := undef) hol; rw [length_append, length_singleton]; exact this)
   simp only [append_assoc, singleton_append, length_append, length_singleton] at a1 a2
   refine ⟨⟨fun f W _ _ hd hf => ?_, a1⟩, by rw [length_cons, show V.length + (os.length + 1) = V.length + 1 + os.length by omega]; exact a2, by simp [a3]⟩
   rw [hon (undef :: qv)]
   exact rfl
  | true =>
   simp only [cond_true] at h
   obtain ⟨r, hr, h⟩ := Option.bind_eq_some_iff.1 h
   obtain ⟨q, hq, h⟩ := Option.bind_eq_some_iff.1 h
   simp only [Option.some.injEq, Prod.mk.injEq] at h
   obtain ⟨rfl, rfl, rfl, rfl⟩ := h
   obtain ⟨rv, ⟨rL, rR⟩, rh⟩ := r
   obtain ⟨qv, qE, qL, qR⟩ := q
   simp only [List.cons.injEq] at e
   have hq' : jK opC n l (okD l) os os.length (V ++ [rv]).length (Go.Proofs.YtanpcpoogkdlaaaGreat.push o.dst rv E) rh = some (qv, qE, (qL, qR)) := by rw [length_append, length_singleton]; exact hq
   obtain ⟨a1, a2, a3⟩ := mS ho hA os (hos' rv) hq' e.2 (by have := hI.push (v := rv) hol; rw [length_append, length_singleton]; exact this)
   simp only [append_assoc, singleton_append, length_append, length_singleton] at a1 a2
   refine ⟨⟨fun f W hst hbl hd hf => ?_, a1⟩, by rw [length_cons, show V.length + (os.length + 1) = V.length + 1 + os.length by omega]; exact a2, by simp [a3]⟩
   rw [hon (rv :: qv)]
   exact (yT (hlk (rv :: qv) f W hd hf) hst hbl hr e.1).mono (fun u W' hu => ⟨hu.2.2, hu.1⟩)
theorem aC6 {l : List Oper} {V : List Value} {E0 E1 : List (Nat × Value)} {f0 f : Nat → Value} {W : World} (hA : Ag E0 f0) (hI : Inl l V E0 l.length E1) (hv : ∀ i d, i < l.length → aZ l i = some d → ((V.map Pl.any).getD i Pl.off).p (f d) W) (hk : ∀ t, iO l t = true → f t = f0 t) : Ag E1 f := by
 intro t v h
 rcases hI t v h with ⟨j, hj, hd, hvj⟩ | ⟨hn, he⟩
 ·have := hv j t hj hd
  rw [tM hvj] at this
  exact this
 rw [hk t ?_]
 ·exact hA t v he
 unfold iO
 rw [all_eq_true]
 intro o ho
 obtain ⟨j, hj, rfl⟩ := getElem_of_mem ho
 have := hn j hj
 unfold aZ at this
 rw [getElem?_eq_getElem hj, Option.bind_some] at this
 cases hd : l[j].dst with
 | none => rfl
 | some d =>
  rw [hd] at this
  simp only
  rw [gG (fun e => this (by rw [e]))]
  rfl
theorem rd {id : Nat} {l : List Oper} {f0 : Nat → Value} {E : List (Nat × Value)} (hst : St w0 W rs) (hA : Ag E f0) (ws : List Nat) (X : List (Nat × Value)) (hs : List (Hn P w0 W rs)) (hc : (P.follows .mixedOrders && nA n l) = true)
  (h : side true (jK opC n l (okD l) l l.length 0 E hs) (X ++ cut ws E) = side false (jK opC n l (okD l) l l.length 0 E hs) (X ++ cut ws E))
  (k : ∀ f W', Ag (X ++ cut ws E) f → St w0 W' rs → Below W.heap.size W W' → Q .normal (act n f) W') : (Code.region id l.toArray true).wp P Q (act n f0) W := by
 rw [Bool.and_eq_true] at hc
 obtain ⟨vs, E1, L, hr, hE⟩ := rE h
 obtain ⟨a1, a2, a3⟩ := mS (Q := Q) (OrdOk.of hc.2) hA l (V := []) (by simp) hr rfl (fun t v h => .inr ⟨fun j hj => absurd hj (Nat.not_lt_zero j), h⟩)
 exact sx_anyQ0 _ hc.1 hc.2 hst (by simpa using a1) (fun f W' s b hv hk => k f W' (hE f (aC6 hA (by simpa using a2) (by simpa using hv) hk)) s b)
theorem rk {id : Nat} {l : List Oper} {f0 : Nat → Value} {E : List (Nat × Value)} (m : Nat) (hst : St w0 W rs) (hA : Ag E f0) (ws : List Nat) (X : List (Nat × Value)) (hs : List (Hn P w0 W rs)) (hc : (P.follows .mixedOrders && (nA n (l.take m) && lI (l.take m) (l.drop m))) = true)
  (h : side true (jK opC n (l.take m) (okD (l.take m)) (l.take m) (l.take m).length 0 E hs) (X ++ cut ws E) = side false (jK opC n (l.take m) (okD (l.take m)) (l.take m) (l.take m).length 0 E hs) (X ++ cut ws E))
  (k : ∀ f W', Ag (X ++ cut ws E) f → St w0 W' rs → Below W.heap.size W W' → Wl P l.toArray Q (l.drop m) n f W') : (Code.region id l.toArray true).wp P Q (act n f0) W := by
 rw [Bool.and_eq_true, Bool.and_eq_true] at hc
 obtain ⟨vs, E1, L, hr, hE⟩ := rE h
 obtain ⟨a1, a2, a3⟩ := mS (Q := Q) (OrdOk.of hc.2.1) hA (l.take m) (V := []) (by simp) hr rfl (fun t v h => .inr ⟨fun j hj => absurd hj (Nat.not_lt_zero j), h⟩)
 exact zS m _ hc.1 hc.2.1 (by rw [hc.2.2, Bool.or_true]) hst (by simpa using a1) (fun f W' s b hv hk => k f W' (hE f (aC6 hA (by simpa using a2) (by simpa using hv) hk)) s b)
end
section
variable {P : Program} {n : Nat} {f : Nat → Value} {W : World} {Q : Exit → Act → World → Prop}
def jn (n : Nat) (J : (Nat → Value) → World → Prop) (Q : Exit → Act → World → Prop) : Exit → Act → World → Prop
 | .normal, a, w => ∃ f, a = act n f ∧ J f w
 | e, a, w => Q e a w
end
section
variable {P : Program} {n : Nat} {f : Nat → Value} {W : World} {Q : Exit → Act → World → Prop}
end
section
variable {P : Program} {n : Nat} {f : Nat → Value} {W : World} {Q : Exit → Act → World → Prop}
theorem jn_ret {J : (Nat → Value) → World → Prop} {a : Act} {w : World} (h : Q .ret a w) : jn n J Q .ret a w := h
theorem wr {fn : Func} {R : Ending → World → Prop} (h : bodyPost P fn R .ret (act n f) W) (hq : bodyPost P fn R .ret (act n f) W → Q .ret (act n f) W := by intro h_; repeat (first | exact h_ | refine sA ?_ | refine wU ?_ | refine jn_ret ?_)) : Code.ret.wp P Q (act n f) W := wp_ret (hq h)
theorem nem (p : Prop) [Decidable p] : ¬ p ∨ p := (Decidable.em p).symm
theorem gP {p : Prop} [Decidable p] (h : ¬ p) : (!decide p) = true := by simp [h]
theorem gQ {p : Prop} [Decidable p] (h : p) : (!decide p) = false := by simp [h]
theorem aJ {c : Operand} {x y : Code} {p : Prop} [Decidable p] (hc : ev n f c = .bool (decide p)) (ht : p → x.wp P Q (act n f) W) (hf : ¬ p → y.wp P Q (act n f) W) : (Code.cond c x y).wp P Q (act n f) W :=
 bU hc (fun h => ht (of_decide_eq_true h)) (fun h => hf (of_decide_eq_false h))
theorem bH {c : Operand} {x y : Code} {p : Prop} [Decidable p] (hc : ev n f c = .bool (!decide p)) (ht : ¬ p → x.wp P Q (act n f) W) (hf : p → y.wp P Q (act n f) W) : (Code.cond c x y).wp P Q (act n f) W :=
 bU hc (fun h => ht (fun q => by simp [q] at h)) (fun h => hf (by simpa using h))
theorem fB {a b : Bool} (h : a = b) : Ending.returned (.bool a) = .returned (.bool b) := by rw [h]
theorem fI {a b : Int} (h : a = b) : Ending.returned (I a) = .returned (I b) := by rw [h]
end
/-! ### What is told, in short -/
section
variable {P : Program} {w0 Ws : World} {rs : List Res}
def qb (i : Nat) {b : Nat} {cs : List Value} {t : TypeId} (h : rs[i]? = some (Res.bx b cs t)) (j : Nat) : Hn P w0 Ws rs := .m b 0 cs (fun _ s _ => cC (s.get i h)) j
def qw (i : Nat) {b : Nat} {cs : List Value} {t : TypeId} (h : rs[i]? = some (Res.bx b cs t)) {z : Nat} (hl : cs.length = z) : Hn P w0 Ws rs := .w b 0 cs (fun _ s _ => cC (s.get i h)) z hl
theorem sT {W : World} {b : Nat} {pre cs post : List Value} {t : TypeId} (h : (Res.bx b (pre ++ cs ++ post) t).holds W) : W.rangeAt b pre.length cs := by
 intro j v hj
 have h1 := cC h (pre.length + j) v (by
  rw [append_assoc, getElem?_append_right aC, Nat.add_sub_cancel_left, getElem?_append_left (gsi_.1 hj).1]
  exact hj)
 rwa [Nat.zero_add] at h1
def qp (i : Nat) {b : Nat} {pre cs post : List Value} {t : TypeId} (h : rs[i]? = some (Res.bx b (pre ++ cs ++ post) t)) (j : Nat) : Hn P w0 Ws rs := .m b pre.length cs (fun _ s _ => sT (s.get i h)) j
def qr {b o : Nat} {cs : List Value} (h : w0.rangeAt b o cs) (j : Nat) : Hn P w0 Ws rs := .m b o cs (fun _ s _ => dT h s.below) j
def qn {b o : Nat} {cs : List Value} (h : Ws.rangeAt b o cs) (j : Nat) : Hn P w0 Ws rs := .m b o cs (fun _ _ q => dT h q) j
def qrw {b o : Nat} {cs : List Value} (h : w0.rangeAt b o cs) {z : Nat} (hl : cs.length = z) : Hn P w0 Ws rs := .w b o cs (fun _ s _ => dT h s.below) z hl
def qx {v : Value} {k i b o : Nat} (h : PA v k i b o) : Hn P w0 Ws rs := .x v k i b o h (i : Int) rfl
def qxe {v : Value} {k i b o : Nat} (h : PA v k i b o) {e : Int} (he : e = i) : Hn P w0 Ws rs := .x v k i b o h e he
theorem Sl.lis {α : Type} [Shape α] {w : World} {v : Value} {xs : List α} {fp : List Nat} (h : Sl w v xs fp) : Lis v xs.length := by
 obtain ⟨ao, cap, rfl, _⟩ := h; exact ⟨ao, cap, rfl⟩
def ql {α : Type} [Shape α] {w : World} {v : Value} {xs : List α} {fp : List Nat} (h : Sl w v xs fp) : Hn P w0 Ws rs := .l v xs.length h.lis
def qk {e r : Bool} (h : e = r) : Hn P w0 Ws rs := .k e r h
def qc {F : FuncId} {fn : Func} (hf : P.funcs[F]? = some fn) (ho : ((fn.name == "runtime.NumGoroutine") || fn.body.isNone) = false) {args : List Value} {v : Value} (h : ∀ W, St w0 W rs → Below Ws.heap.size Ws W → Calls P F args.toArray W fun e W' => e = .returned v ∧ St W W' []) : Hn P w0 Ws rs := .c F fn hf ho args v h
def qcb {F : FuncId} {fn : Func} (hf : P.funcs[F]? = some fn) (ho : ((fn.name == "runtime.NumGoroutine") || fn.body.isNone) = false) {args : List Value} {e r : Bool} (hk : e = r) (h : ∀ W, St w0 W rs → Below Ws.heap.size Ws W → Calls P F args.toArray W fun en W' => en = .returned (.bool e) ∧ St W W' []) : Hn P w0 Ws rs := .c F fn hf ho args (.bool r) (fun W a b => (h W a b).mono fun _ _ q => ⟨hk ▸ q.1, q.2⟩)
def qad (x y : Int) (h : I64 (x + y) := by first | (unfold I64; omega) | (simp only [I64] at *; omega)) : Hn P w0 Ws rs := .ad x y h
def qsb (x y : Int) (h : I64 (x - y) := by first | (unfold I64; omega) | (simp only [I64] at *; omega)) : Hn P w0 Ws rs := .sb x y h
def qq (x y : Int) (h : (0 ≤ x ∧ x ≤ 9223372036854775807) ∧ 0 < y := by omega) : Hn P w0 Ws rs := .q x y h
end
theorem St.own0 {α : Type} [Shape α] [Agg α] {w0 W : World} {cs : List Value} {x : α} {rs : List Res} (h : St w0 W rs) (hc : Shape.C W cs x []) (ha : Agg.agg α = true) : St w0 W (Res.own (.agg cs.toArray) x [] :: rs) :=
 (St.cs0 h hc).trade1 rfl (fun hh => ⟨⟨cs, by simp only [val, ha, cond_true], hh.1⟩, hh.2⟩)

theorem toFile_n {x : File} (hc : Shape.C w cs x fp) :
  Calls prog 243 #[.agg cs.toArray] w fun e w' => e = .returned (.agg #[.string x.name, .string x.data, I x.safe]) ∧ x.ok ∧ St w w' [] := by
 refine dS func243 rfl ntmps243 aV (wp_seq (aA (sg (aI (cs := cs) rfl (St.start w) ?_)))); intro b1 W2 hb3 st4
 refine sg (bO zL st4 ?_); intro b6 W7 hb8 st9
 refine aB (wp_seq (aA (sg (bO zL st9 ?_)))); intro b11 W12 hb13 st14
 refine aB (wp_seq (aA ?_))
 have hk17 := hc
 obtain ⟨he17, rfl, hok17⟩ := hk17
 have he17 : _ = [.string x.name, .string x.data, I x.safe] := he17
 subst he17
 refine rn st14 3 Ag.nil.put.put.put.put [] [(5, .string x.name), (6, pt_ b11)] [qb 2 rfl 0] aD fun f18 h18_ => (sgn (eU (v := .string x.name) aD (h18_.at 6) (h18_.at 5) rfl rfl st14 gC rfl ?_)); intro W19 st20
 refine aB (wp_seq (aA (rn st20 3 h18_ [] [(8, .string x.data), (9, .pointer (some ⟨b11, 1, none⟩))] [qb 2 rfl 1] aD fun f22 h22_ => (sgn (eU (v := .string x.data) aD (h22_.at 9) (h22_.at 8) rfl rfl st20 gC rfl ?_))))); intro W23 st24
 refine aB (wp_seq (aA (rn st24 3 h22_ [] [(11, I x.safe), (12, .pointer (some ⟨b11, 2, none⟩))] [qb 2 rfl 2] aD fun f26 h26_ => (sgn (eU (v := I x.safe) aD (h26_.at 12) (h26_.at 11) rfl rfl st24 gC rfl ?_))))); intro W27 st28
 refine aB (wp_seq (aA (sg (cE (cs := [.string x.name, .string x.data, I x.safe]) aA9 rfl (h26_.at 3) (st28.get 0 rfl) rfl rfl (sgn (eF aD (h26_.at 2) rfl (dQ rfl (dQ rfl (dQ rfl oN))) st28.f1 gC rfl ?_)))))); intro W32 st33
 refine aB (wr (aA4 aA9 rfl results243 (h26_.at 2) (st33.get 0 rfl) rfl ?_))
 exact ⟨rfl, by assumption, st33.bare⟩
theorem toFile_o {x : File} (hc : Shape.C w cs x fp) : Calls prog 243 #[.agg cs.toArray] w fun e w' => ∃ (cs' : List Value) (fp' : List Nat), e = .returned (.agg cs'.toArray) ∧ St w w' [Res.own (.agg cs'.toArray) x fp'] :=
 (toFile_n w hc).mono (by rintro e w' ⟨rfl, hok, hk⟩; exact ⟨_, _, rfl, St.own0 hk ⟨rfl, rfl, hok⟩ rfl⟩)

theorem toFileS_n {v : Value} {xs : List File} {fp : List Nat} (h : Sl w v xs fp) (hw : wtL (fun y : File => y.wt) xs ≤ 1048576) :
  Calls prog 127 #[v] w (rS_ xs w) := by
 have hl : xs.length ≤ 1048576 := by unfold wtL at hw; omega
 have hw2 := hw
 unfold wtL at hw2
 refine dS func127 rfl ntmps127 aV (wp_seq (aA (sg (aF (v := .slice none 0 0) rfl (aB (wp_seq (aA (sg (aG (v := v) rfl (sg (kH sl_FileSL rfl h (sg (stp_make (α := File) (N := xs.length) ap_FileS rfl rfl aC aC (St.start w) ?_))))))))))))); intro b5 W6 hb7 st8
 refine sg (aF (v := .slice (some ⟨b5, 0, none⟩) xs.length xs.length) rfl (aB (wp_seq (wp_seq (aA (sg (aE (aB (wp_block (aP (fun (m : Nat) (f : Nat → Value) (W : World) => ∃ (k : Nat) (fe14 : List Nat), k ≤ xs.length ∧ m = xs.length - k ∧ Ag [(0, v), (3, .slice (some ⟨b5, 0, none⟩) xs.length xs.length), (4, I (k : Int))] f ∧ St w W ([Res.fill (α := File) 131 b5 xs.length (xs.take k) fe14])) (xs.length - 0) ?_ ?_))))))))))
 ·exact ⟨0, [], (by first | omega | simp), rfl, (Ag.nil.put.put.put.put.put.put.put.to aD), st8⟩
 intro m15 f16 W17 hJ18
 obtain ⟨k, fe14, hcd20_0, rfl, hA20, st19⟩ := hJ18
 refine wp_seq (wp_seq (aA (rn st19 4 hA20 [] [(11, .bool (decide ((k : Int) < (xs.length : Int))))] [ql h, .o] aD fun f22 h22_ => (aB (aJ (h22_.at 11) (fun h23p => ?_) (fun h23p => ?_))))))
 ·refine wp_skip (wp_seq (wp_block (aA ?_)))
  have hi51fab : k < xs.length := aC
  obtain ⟨b25, o25, cs25, f25, hp25, hr25, hc25, hm25⟩ := idx h (i := k) hi51fab
  refine rn st19 6 h22_ [] [(14, .slice (some ⟨b5, 0, none⟩) xs.length xs.length), (15, I (k : Int)), (19, .agg cs25.toArray)] [qx hp25, qrw hr25 (Shape.len hc25)] aD fun f26 h26_ => ?_
  have hwk : xs[k].wt ≤ _ := vZ (fun y : File => y.wt) xs k aC
  refine sg (dD func243 rfl (h26_.at 19) ((toFile_o W17 hc25).mono ?_)); rintro _ W29 ⟨cs27, fp27, rfl, hk30⟩; refine ⟨_, rfl, ?_⟩
  have st31 := St.call st19 hk30
  refine sg (bG sl_FileS (h26_.at 14) (PA_row (b := b5) aC) (h26_.at 15) rfl ?_)
  have st34 := st31.f1.f1.cs rfl
  refine sgn (stp_store_fill aD rfl (congrArg (fun z => 0 + z * _) (length_take_of_le aC).symm) rfl (.inl rfl) st34 (by rw [length_take_of_le aC]; omega) ?_); intro W36 st37
  refine aB (aA (rn st37 3 h26_.put.put [4] [(4, I ((k : Int) + 1))] [qad (k : Int) 1] aD fun f39 h39_ => (aB ?_)))
  exact ⟨_, xs.length - (k + 1), aC, rfl, k + 1, fe14 ++ fp27, aC, rfl, (h39_.to aD), (by rw [take_succ_eq_append_getElem aC]; exact st37)⟩
 refine wp_exit (wp_seq (aA (sg (aG (h22_.at 3) (sg (aF (v := .slice (some ⟨b5, 0, none⟩) xs.length xs.length) rfl (aB (wr (aL results127 rfl ?_)))))))))
 obtain rfl : k = xs.length := by omega
 rw [take_length] at st19
 have hq_ := st19.full rfl aC
 obtain ⟨fpz, stz⟩ := hq_
 exact ⟨_, fpz, rfl, stz.only 0 rfl⟩
theorem nW {x : Disk} (hc : Shape.C w cs x fp) (hw : x.wt ≤ 1048576) :
  Calls prog 35 #[.agg cs.toArray] w (rO_ x w) := by
 have hw' := hw
 unfold Disk.wt at hw'
 refine dS func35 rfl ntmps35 aV (wp_seq (aA (sg (aI (cs := cs) rfl (St.start w) ?_)))); intro b1 W2 hb3 st4
 refine sg (bO vY st4 ?_); intro b6 W7 hb8 st9
 refine aB (wp_seq (aA (sg (bO vY st9 ?_)))); intro b11 W12 hb13 st14
 refine aB (wp_seq (aA ?_))
 have hk17 := hc
 obtain ⟨v17_0, g17_0, rfl, hok17, h17_0, rfl⟩ := hk17
 refine sg (bD fa_DiskL_0 rfl (sg (cX ld_FileSL rfl rfl (st14.get 2 rfl) (i := 0) rfl rfl (sg (dD func127 rfl rfl ((toFileS_n W12 (h17_0.below st14.below) (by first | exact hw | omega | (simp only [Plan.wt, Run.wt, Yard.wt, Deed.wt, Note.wt, File.wt, Disk.wt, Engine.wt, WorldD.wt, ActD.wt, Span.wt, Crew.wt] at *; omega))).mono ?_)))))); rintro _ W21 ⟨v19, fp19, rfl, hk22⟩; refine ⟨_, rfl, ?_⟩
 have st23 := St.call st14 hk22
 refine sg (bD vO rfl (sgn (eU (v := v19) aD rfl rfl (Sl.cells (aS (st23.f1.get 1 rfl))) (Sl.one (aS (st23.f1.get 1 rfl))) st23.f1 gC rfl ?_))); intro W28 st29
 refine aB (wp_seq (aA (sg (cE (cs := [v19]) mM rfl rfl (st29.get 0 rfl) rfl rfl (sgn (eF aD rfl rfl (dQ (Sl.one (aS (st29.f2.get 2 rfl))) oN) st29.f2 gC rfl ?_)))))); intro W33 st34
 refine aB (wr (aA4 mM rfl results35 rfl (st34.get 0 rfl) rfl ?_))
 have st36 := uY (x := x) st34.f2 qW
 exact ⟨_, _, rfl, st36.only 0 rfl⟩
theorem yI {l : Int} {n : Nat} (h : szL l n < 0) (hl : 0 ≤ l) : l < n := by
 unfold szL at h; split at h <;> omega
theorem yJ {l : Int} {n : Nat} (h : ¬ szL l n < 0) (hl : 0 ≤ l) : (n : Int) ≤ l ∧ szL l n = l - n := by
 unfold szL at *; split at h <;> simp_all <;> omega

theorem szFile_n {x : File} (hc : Shape.C w cs x fp) (l : Int) (hl : 0 ≤ l) (hl2 : l ≤ 1048576) :
  Calls prog 239 #[.agg cs.toArray, I l] w (rI_ (szL l x.wt) w) := by
 have hwt : x.wt = x.name.size + x.data.size := rfl
 refine bI func239 rfl ntmps239 aV (wp_seq (aA (sg (aI (cs := cs) rfl (St.start w) ?_)))); intro b1 W2 hb3 st4
 refine sg (aE (aB (wp_seq (aA ?_))))
 have hk9 := hc
 obtain ⟨he9, rfl, hok9⟩ := hk9
 have he9 : _ = [.string x.name, .string x.data, I x.safe] := he9
 subst he9
 refine rn st4 3 Ag.nil.put.put.put.put [] [(5, I l), (7, .string x.name)] [qb 0 rfl 0] aD fun f10 h10_ => (sg (nY underlying9 (h10_.at 7) (sg (rC (h10_.at 5) rfl (by (simp only [File.ok, maxLen, I64] at *; omega)) (sg (aF (v := I (l - (x.name.size : Int))) rfl (aB (wp_seq (wp_seq (aA (sg (aG (v := I (l - (x.name.size : Int))) rfl (sg (bL rfl rfl (aB (aJ rfl (fun h15p => ?_) (fun h15p => ?_)))))))))))))))))
 ·refine wp_seq (aA (sg (aE (aB (wr (aL results239 rfl ?_))))))
  exact ⟨fI (xD aC).symm, st4.bare⟩
 refine wp_skip (wp_seq (aA (rn st4 3 h10_.put.put.put.put.put [] [(12, I (l - (x.name.size : Int))), (14, .string x.data)] [qb 0 rfl 1] aD fun f19 h19_ => (sg (nY underlying9 (h19_.at 14) (sg (rC (h19_.at 12) rfl (by (simp only [File.ok, maxLen, I64] at *; omega)) (sg (aF (v := I ((l - (x.name.size : Int)) - (x.data.size : Int))) rfl (aB (wp_seq (wp_seq (aA (sg (aG (v := I ((l - (x.name.size : Int)) - (x.data.size : Int))) rfl ?_)))))))))))))))
 refine sg (bL rfl rfl (aB (aJ rfl (fun h24p => ?_) (fun h24p => ?_))))
 ·refine wp_seq (aA (sg (aE (aB (wr (aL results239 rfl ?_))))))
  exact ⟨fI (xD aC).symm, st4.bare⟩
 refine wp_skip (wp_seq (aA (sg (aG (v := I ((l - (x.name.size : Int)) - (x.data.size : Int))) rfl (sg (aF (v := I ((l - (x.name.size : Int)) - (x.data.size : Int))) rfl (aB (wr (aL results239 rfl ?_)))))))))
 exact ⟨fI (by rw [aE5 (n := x.wt) aC]; try omega), st4.bare⟩
theorem szFileS_n {v : Value} {xs : List File} {fp : List Nat} (h : Sl w v xs fp) (l : Int) (hl : 0 ≤ l) (hl2 : l ≤ 1048576) :
  Calls prog 124 #[v, I l] w (rI_ (szL l (wtL (fun y : File => y.wt) xs)) w) := by
 have hcap := h.len_le
 have hwt : wtL (fun y : File => y.wt) xs = xs.length + (xs.map (fun y : File => y.wt)).sum := rfl
 refine bI func124 rfl ntmps124 aV (wp_seq (aA (sg (aE (aB (wp_seq (aA (rn (St.start w) 5 Ag.nil.put.put.put [1] [(1, I (l - (xs.length : Int)))] [ql h, qsb l (xs.length : Int)] aD fun f4 h4_ => (aB (wp_seq (wp_seq (aA ?_))))))))))))
 refine sg (aG (h4_.at 1) (sg (bL rfl rfl (aB (aJ rfl (fun h7p => ?_) (fun h7p => ?_))))))
 ·refine wp_seq (aA (sg (aE (aB (wr (aL results124 rfl ?_))))))
  exact ⟨fI (xD aC).symm, (St.start w).bare⟩
 refine wp_skip (wp_seq (wp_seq (aA (sg (aE (aB (wp_block (aP (fun (m : Nat) (f : Nat → Value) (W : World) => ∃ (k : Nat), k ≤ xs.length ∧ 0 ≤ l - (xs.length : Int) - (((xs.take k).map (fun y : File => y.wt)).sum : Nat) ∧ m = xs.length - k ∧ Ag [(0, v), (1, I (l - (xs.length : Int) - (((xs.take k).map (fun y : File => y.wt)).sum : Nat))), (5, I (k : Int))] f ∧ St w W ([])) (xs.length - 0) ?_ ?_))))))))
 ·exact ⟨0, Nat.zero_le _, (by simp; omega), rfl, (Ag.cons (h4_.at 0) (Ag.cons (Eq.trans (show _ = I (l - (xs.length : Int)) from (h4_.at 1)) (show I (l - (xs.length : Int)) = I (l - (xs.length : Int) - (((xs.take 0).map (fun y : File => y.wt)).sum : Nat)) from congrArg I (by simp))) (Ag.cons rfl Ag.nil))), (St.start w)⟩
 intro m12 f13 W14 hJ15
 obtain ⟨k, hcd17_0, hcd17_1, rfl, hA17, st16⟩ := hJ15
 refine wp_seq (wp_seq (aA (rn st16 4 hA17 [] [(15, .bool (decide ((k : Int) < (xs.length : Int))))] [ql h, .o] aD fun f19 h19_ => (aB (aJ (h19_.at 15) (fun h20p => ?_) (fun h20p => ?_))))))
 ·refine wp_skip (wp_seq (wp_block (wp_seq (aA ?_))))
  have hi51fab : k < xs.length := aC
  obtain ⟨b22, o22, cs22, f22, hp22, hr22, hc22, hm22⟩ := idx h (i := k) hi51fab
  refine rn st16 5 h19_ [] [(21, .agg cs22.toArray), (22, I (l - (xs.length : Int) - (((xs.take k).map (fun y : File => y.wt)).sum : Nat)))] [qx hp22, qrw hr22 (Shape.len hc22)] aD fun f23 h23_ => ?_
  have hstep : ((xs.take (k + 1)).map (fun y : File => y.wt)).sum = ((xs.take k).map (fun y : File => y.wt)).sum + xs[k].wt := rV (fun y : File => y.wt) xs k aC
  have hle := iA (fun y : File => y.wt) xs (k + 1)
  refine rc st16 2 h23_ [1] [(1, I (szL (l - (xs.length : Int) - (((xs.take k).map (fun y : File => y.wt)).sum : Nat)) ((xs[k]'hi51fab)).wt))] [qc (args := [.agg cs22.toArray, I (l - (xs.length : Int) - (((xs.take k).map (fun y : File => y.wt)).sum : Nat))]) (v := I (szL (l - (xs.length : Int) - (((xs.take k).map (fun y : File => y.wt)).sum : Nat)) ((xs[k]'hi51fab)).wt)) func239 rfl (fun W s b => szFile_n W hc22 (l - (xs.length : Int) - (((xs.take k).map (fun y : File => y.wt)).sum : Nat)) aC aC)] aD fun f25 W26 h25_ st27 hb28 => (aB (wp_seq (aA (sg (aG (h25_.at 1) (sg (bL rfl rfl (aB (aJ rfl (fun h31p => ?_) (fun h31p => ?_))))))))))
  ·have h31q := yI h31p aC
   refine wp_seq (aA (sg (aE (aB (wr (aL results124 rfl ?_))))))
   exact ⟨fI (xD aC).symm, st27.bare⟩
  have h31q := yJ h31p aC
  refine wp_skip (aA (rn st27 3 h25_.put.put [5] [(5, I ((k : Int) + 1))] [qad (k : Int) 1] aD fun f35 h35_ => (aB ?_)))
  exact ⟨_, xs.length - (k + 1), aC, rfl, k + 1, aC, aC, rfl, (Ag.cons (h35_.at 0) (Ag.cons (Eq.trans (show _ = I (szL (l - (xs.length : Int) - (((xs.take k).map (fun y : File => y.wt)).sum : Nat)) ((xs[k]'hi51fab)).wt) from (h35_.at 1)) (show I (szL (l - (xs.length : Int) - (((xs.take k).map (fun y : File => y.wt)).sum : Nat)) ((xs[k]'hi51fab)).wt) = I (l - (xs.length : Int) - (((xs.take (k + 1)).map (fun y : File => y.wt)).sum : Nat)) from congrArg I aC)) (Ag.cons (h35_.at 5) Ag.nil))), st27⟩
 refine wp_exit (wp_seq (aA (sg (aG (h19_.at 1) (sg (aF (v := I (l - (xs.length : Int) - (((xs.take k).map (fun y : File => y.wt)).sum : Nat))) rfl (aB (wr (aL results124 rfl ?_)))))))))
 obtain rfl : k = xs.length := by omega
 rw [take_length] at *
 exact ⟨fI (by rw [aE5 aC]; try omega), st16.bare⟩
theorem szDisk_n {x : Disk} (hc : Shape.C w cs x fp) (l : Int) (hl : 0 ≤ l) (hl2 : l ≤ 1048576) :
  Calls prog 33 #[.agg cs.toArray, I l] w (rI_ (szL l x.wt) w) := by
 have hwt : x.wt = (wtL (fun y : File => y.wt) x.files) := rfl
 refine bI func33 rfl ntmps33 aV (wp_seq (aA (sg (aI (cs := cs) rfl (St.start w) ?_)))); intro b1 W2 hb3 st4
 refine sg (aE (aB (wp_seq (aA ?_))))
 have hk9 := hc
 obtain ⟨v9_0, g9_0, rfl, hok9, h9_0, rfl⟩ := hk9
 refine rc st4 5 Ag.nil.put.put.put.put [1] [(1, I (szL l (wtL (fun y : File => y.wt) x.files)))] [qb 0 rfl 0, qc func124 rfl (fun W s b => szFileS_n W (h9_0.below s.below) l aC aC)] aD fun f10 W11 h10_ st12 hb13 => (aB (wp_seq (wp_seq (aA (sg (aG (h10_.at 1) (sg (bL rfl rfl (aB (aJ rfl (fun h16p => ?_) (fun h16p => ?_)))))))))))
 ·have h16q := yI h16p aC
  refine wp_seq (aA (sg (aE (aB (wr (aL results33 rfl ?_))))))
  exact ⟨fI (xD aC).symm, st12.bare⟩
 have h16q := yJ h16p aC
 refine wp_skip (wp_seq (aA (sg (aG (h10_.at 1) (sg (aF (v := I (szL l (wtL (fun y : File => y.wt) x.files))) rfl (aB (wr (aL results33 rfl ?_)))))))))
 exact ⟨fI (by rw [aE5 (n := x.wt) aC]; try omega), st12.bare⟩
theorem Edge_ext {x y : Edge} (h0 : x.from_ = y.from_) (h1 : x.to_ = y.to_) : x = y := by
 cases x; cases y; simp only at *; subst_vars; rfl
theorem eqEdge_n {x y : Edge} {cs ds : List Value} {fp gp : List Nat} (hc : Shape.C w cs x fp) (hd : Shape.C w ds y gp) :
  Calls prog 368 #[.agg cs.toArray, .agg ds.toArray] w (rB_ (eqB x y) w) := by
 refine bI func368 rfl ntmps368 aV (wp_seq (aA (sg (aI (cs := cs) rfl (St.start w) ?_)))); intro b1 W2 hb3 st4
 refine sg (aI (cs := ds) rfl st4 ?_); intro b6 W7 hb8 st9
 refine sg (aE (aB (wp_seq (wp_seq (aA ?_)))))
 have hk14 := hc
 obtain ⟨he14, rfl, hok14⟩ := hk14
 have he14 : _ = [I x.from_, I x.to_] := he14
 subst he14
 have hk15 := hd
 obtain ⟨he15, rfl, hok15⟩ := hk15
 have he15 : _ = [I y.from_, I y.to_] := he15
 subst he15
 refine rn st9 5 Ag.nil.put.put.put.put.put [] [(9, .bool (!decide (x.from_ = y.from_)))] [qb 1 rfl 0, qb 0 rfl 0, .o] aD fun f16 h16_ => (aB (bH (h16_.at 9) (fun h17p => ?_) (fun h17p => ?_)))
 ·have h17 := gP h17p
  refine wp_seq (aA (sg (aE (aB (wr (aL results368 rfl ?_))))))
  exact ⟨fB (dO (fun e => by subst e; first | exact h17p rfl | exact absurd (aN h17) (by rw [cD rfl]; decide) | exact absurd (aN h17) (by simp))).symm, st9.bare⟩
 have h17 := gQ h17p
 refine wp_skip (wp_seq (wp_seq (aA (rn st9 5 h16_ [] [(14, .bool (!decide (x.to_ = y.to_)))] [qb 1 rfl 1, qb 0 rfl 1, .o] aD fun f21 h21_ => (aB (bH (h21_.at 14) (fun h22p => ?_) (fun h22p => ?_)))))))
 ·have h22 := gP h22p
  refine wp_seq (aA (sg (aE (aB (wr (aL results368 rfl ?_))))))
  exact ⟨fB (dO (fun e => by subst e; first | exact h22p rfl | exact absurd (aN h22) (by rw [cD rfl]; decide) | exact absurd (aN h22) (by simp))).symm, st9.bare⟩
 have h22 := gQ h22p
 refine wp_skip (wp_seq (aA (sg (aE (aB (wr (aL results368 rfl ?_)))))))
 exact ⟨fB (cD (Edge_ext h17p h22p)).symm, st9.bare⟩
theorem tq1_ {P : Prop} (h : P := by
 have hcap := h.len_le
 have hcap2 := g.len_le
 refine bI zq1 rfl zq2 aV (wp_seq (aA (sg (aE (aB (wp_seq (wp_seq (aA (rn (St.start w) 5 Ag.nil.put.put.put [] [(10, .bool (!decide ((xs.length : Int) = (ys.length : Int))))] [ql h, ql g, .o] aD fun f4 h4_ => (aB (bH (h4_.at 10) (fun h5p => ?_) (fun h5p => ?_))))))))))))
 ·refine wp_seq (aA (sg (aE (aB (wr (aL zq3 rfl ?_))))))
  exact ⟨fB (dO (fun e => h5p (by rw [e]))).symm, (St.start w).bare⟩
 refine wp_skip (wp_seq (wp_seq (aA (sg (aE (aB (wp_block (aP (fun (m : Nat) (f : Nat → Value) (W : World) => ∃ (k : Nat), k ≤ xs.length ∧ xs.take k = ys.take k ∧ m = xs.length - k ∧ Ag [(0, v), (1, u), (5, I (k : Int))] f ∧ St w W ([])) (xs.length - 0) ?_ ?_))))))))
 ·exact ⟨0, Nat.zero_le _, rfl, rfl, (h4_.put.to aD), (St.start w)⟩
 intro m10 f11 W12 hJ13
 obtain ⟨k, hk, htk, rfl, hA15, st14⟩ := hJ13
 refine wp_seq (wp_seq (aA (rn st14 4 hA15 [] [(14, .bool (decide ((k : Int) < (xs.length : Int))))] [ql h, .o] aD fun f17 h17_ => (aB (aJ (h17_.at 14) (fun h18p => ?_) (fun h18p => ?_))))))
 ·refine wp_skip (wp_seq (wp_block (wp_seq ?_)))
  have hi51fab : k < xs.length := aC
  obtain ⟨b20, o20, cs20, f20, hp20, hr20, hc20, hm20⟩ := idx h (i := k) hi51fab
  have hi28e79 : k < ys.length := aC
  obtain ⟨b21, o21, cs21, f21, hp21, hr21, hc21, hm21⟩ := idx g (i := k) hi28e79
  refine rd st14 h17_ [] [(26, .bool (!(eqB (xs[k]'hi51fab) (ys[k]'hi28e79))))] [qx hp20, qrw hr20 (Shape.len hc20), qx hp21, qrw hr21 (Shape.len hc21), qc (args := [.agg cs20.toArray, .agg cs21.toArray]) (v := .bool (eqB (xs[k]'hi51fab) (ys[k]'hi28e79))) zq4 rfl (fun W s b => zq5 W hc20 hc21), .o] aD aD fun f22 W23 h22_ st24 hb25 => (bU (h22_.at 26) (fun h26 => ?_) (fun h26 => ?_))
  ·refine wp_seq (aA (sg (aE (aB (wr (aL zq3 rfl ?_))))))
   have hne : ¬ xs[k] = ys[k]'(by omega) := fun e => absurd (aN h26) (by rw [cD e]; decide)
   exact ⟨fB (dO (fun e => hne (by subst e; rfl))).symm, st24.bare⟩
  refine wp_skip (aA (rn st24 3 h22_ [5] [(5, I ((k : Int) + 1))] [qad (k : Int) 1] aD fun f30 h30_ => (aB ?_)))
  exact ⟨_, xs.length - (k + 1), aC, rfl, k + 1, aC, (kF aC aC htk (eqB_iff.1 (bS h26))), rfl, (h30_.to aD), st24⟩
 refine wp_exit (wp_seq (aA (sg (aE (aB (wr (aL zq3 rfl ?_)))))))
 obtain rfl : k = xs.length := by omega
 rw [take_length, take_of_length_le aC] at htk
 exact ⟨fB (cD htk).symm, st14.bare⟩) : P := h
theorem eqEdgeS_n {v u : Value} {xs ys : List Edge} {fp gp : List Nat} (h : Sl w v xs fp) (g : Sl w u ys gp) :
  Calls prog 276 #[v, u] w fun e w' => e = .returned (.bool (eqB xs ys)) ∧ St w w' [] := by have zq1 := @func276; have zq2 := @ntmps276; have zq3 := @results276; have zq4 := @func368; have zq5 := @eqEdge_n; exact tq1_
theorem Plan_ext {x y : Plan} (h0 : x.prio = y.prio) (h1 : x.most = y.most) (h2 : x.wait = y.wait) (h3 : x.tasks = y.tasks) (h4 : x.edges = y.edges) : x = y := by
 cases x; cases y; simp only at *; subst_vars; rfl
theorem eqPlan_n {x y : Plan} {cs ds : List Value} {fp gp : List Nat} (hc : Shape.C w cs x fp) (hd : Shape.C w ds y gp) :
  Calls prog 166 #[.agg cs.toArray, .agg ds.toArray] w (rB_ (eqB x y) w) := by
 refine bI func166 rfl ntmps166 aV (wp_seq (aA (sg (aI (cs := cs) rfl (St.start w) ?_)))); intro b1 W2 hb3 st4
 refine sg (aI (cs := ds) rfl st4 ?_); intro b6 W7 hb8 st9
 refine sg (aE (aB (wp_seq (wp_seq (aA ?_)))))
 have hk14 := hc
 obtain ⟨v14_0, g14_0, rfl, hok14, h14_0, rfl⟩ := hk14
 have hk15 := hd
 obtain ⟨v15_0, g15_0, rfl, hok15, h15_0, rfl⟩ := hk15
 refine rn st9 5 Ag.nil.put.put.put.put.put [] [(9, .bool (!decide (x.prio = y.prio)))] [qb 1 rfl 0, qb 0 rfl 0, .o] aD fun f16 h16_ => (aB (bH (h16_.at 9) (fun h17p => ?_) (fun h17p => ?_)))
 ·have h17 := gP h17p
  refine wp_seq (aA (sg (aE (aB (wr (aL results166 rfl ?_))))))
  exact ⟨fB (dO (fun e => by subst e; first | exact h17p rfl | exact absurd (aN h17) (by rw [cD rfl]; decide) | exact absurd (aN h17) (by simp))).symm, st9.bare⟩
 have h17 := gQ h17p
 refine wp_skip (wp_seq (wp_seq (aA (rn st9 5 h16_ [] [(14, .bool (!decide (x.most = y.most)))] [qb 1 rfl 1, qb 0 rfl 1, .o] aD fun f21 h21_ => (aB (bH (h21_.at 14) (fun h22p => ?_) (fun h22p => ?_)))))))
 ·have h22 := gP h22p
  refine wp_seq (aA (sg (aE (aB (wr (aL results166 rfl ?_))))))
  exact ⟨fB (dO (fun e => by subst e; first | exact h22p rfl | exact absurd (aN h22) (by rw [cD rfl]; decide) | exact absurd (aN h22) (by simp))).symm, st9.bare⟩
 have h22 := gQ h22p
 refine wp_skip (wp_seq (wp_seq (aA (rn st9 5 h21_ [] [(19, .bool (!decide (x.wait = y.wait)))] [qb 1 rfl 2, qb 0 rfl 2, .o] aD fun f26 h26_ => (aB (bH (h26_.at 19) (fun h27p => ?_) (fun h27p => ?_)))))))
 ·have h27 := gP h27p
  refine wp_seq (aA (sg (aE (aB (wr (aL results166 rfl ?_))))))
  exact ⟨fB (dO (fun e => by subst e; first | exact h27p rfl | exact absurd (aN h27) (by rw [cD rfl]; decide) | exact absurd (aN h27) (by simp))).symm, st9.bare⟩
 have h27 := gQ h27p
 refine wp_skip (wp_seq (wp_seq (aA (rn st9 5 h26_ [] [(24, .bool (!decide (x.tasks = y.tasks)))] [qb 1 rfl 3, qb 0 rfl 3, .o] aD fun f31 h31_ => (aB (bH (h31_.at 24) (fun h32p => ?_) (fun h32p => ?_)))))))
 ·have h32 := gP h32p
  refine wp_seq (aA (sg (aE (aB (wr (aL results166 rfl ?_))))))
  exact ⟨fB (dO (fun e => by subst e; first | exact h32p rfl | exact absurd (aN h32) (by rw [cD rfl]; decide) | exact absurd (aN h32) (by simp))).symm, st9.bare⟩
 have h32 := gQ h32p
 refine wp_skip (wp_seq (wp_seq (aA (rc st9 6 h31_ [] [(30, .bool (!(eqB x.edges y.edges)))] [qb 1 rfl 4, qb 0 rfl 4, qc func276 rfl (fun W s b => eqEdgeS_n W (h14_0.below s.below) (h15_0.below s.below)), .o] aD fun f36 W37 h36_ st38 hb39 => (aB (bU (h36_.at 30) (fun h40 => ?_) (fun h40 => ?_)))))))
 ·refine wp_seq (aA (sg (aE (aB (wr (aL results166 rfl ?_))))))
  exact ⟨fB (dO (fun e => by subst e; first | exact absurd (aN h40) (by rw [cD rfl]; decide) | exact absurd (aN h40) (by simp))).symm, st38.bare⟩
 refine wp_skip (wp_seq (aA (sg (aE (aB (wr (aL results166 rfl ?_)))))))
 exact ⟨fB (cD (Plan_ext h17p h22p h27p h32p (eqB_iff.1 (bS h40)))).symm, st38.bare⟩
theorem Entry_ext {x y : Entry} (h0 : x.prio = y.prio) (h1 : x.seq = y.seq) (h2 : x.run = y.run) (h3 : x.task = y.task) : x = y := by
 cases x; cases y; simp only at *; subst_vars; rfl
theorem eqEntry_n {x y : Entry} {cs ds : List Value} {fp gp : List Nat} (hc : Shape.C w cs x fp) (hd : Shape.C w ds y gp) :
  Calls prog 352 #[.agg cs.toArray, .agg ds.toArray] w (rB_ (eqB x y) w) := by
 refine bI func352 rfl ntmps352 aV (wp_seq (aA (sg (aI (cs := cs) rfl (St.start w) ?_)))); intro b1 W2 hb3 st4
 refine sg (aI (cs := ds) rfl st4 ?_); intro b6 W7 hb8 st9
 refine sg (aE (aB (wp_seq (wp_seq (aA ?_)))))
 have hk14 := hc
 obtain ⟨he14, rfl, hok14⟩ := hk14
 have he14 : _ = [I x.prio, I x.seq, I x.run, I x.task] := he14
 subst he14
 have hk15 := hd
 obtain ⟨he15, rfl, hok15⟩ := hk15
 have he15 : _ = [I y.prio, I y.seq, I y.run, I y.task] := he15
 subst he15
 refine rn st9 5 Ag.nil.put.put.put.put.put [] [(9, .bool (!decide (x.prio = y.prio)))] [qb 1 rfl 0, qb 0 rfl 0, .o] aD fun f16 h16_ => (aB (bH (h16_.at 9) (fun h17p => ?_) (fun h17p => ?_)))
 ·have h17 := gP h17p
  refine wp_seq (aA (sg (aE (aB (wr (aL results352 rfl ?_))))))
  exact ⟨fB (dO (fun e => by subst e; first | exact h17p rfl | exact absurd (aN h17) (by rw [cD rfl]; decide) | exact absurd (aN h17) (by simp))).symm, st9.bare⟩
 have h17 := gQ h17p
 refine wp_skip (wp_seq (wp_seq (aA (rn st9 5 h16_ [] [(14, .bool (!decide (x.seq = y.seq)))] [qb 1 rfl 1, qb 0 rfl 1, .o] aD fun f21 h21_ => (aB (bH (h21_.at 14) (fun h22p => ?_) (fun h22p => ?_)))))))
 ·have h22 := gP h22p
  refine wp_seq (aA (sg (aE (aB (wr (aL results352 rfl ?_))))))
  exact ⟨fB (dO (fun e => by subst e; first | exact h22p rfl | exact absurd (aN h22) (by rw [cD rfl]; decide) | exact absurd (aN h22) (by simp))).symm, st9.bare⟩
 have h22 := gQ h22p
 refine wp_skip (wp_seq (wp_seq (aA (rn st9 5 h21_ [] [(19, .bool (!decide (x.run = y.run)))] [qb 1 rfl 2, qb 0 rfl 2, .o] aD fun f26 h26_ => (aB (bH (h26_.at 19) (fun h27p => ?_) (fun h27p => ?_)))))))
 ·have h27 := gP h27p
  refine wp_seq (aA (sg (aE (aB (wr (aL results352 rfl ?_))))))
  exact ⟨fB (dO (fun e => by subst e; first | exact h27p rfl | exact absurd (aN h27) (by rw [cD rfl]; decide) | exact absurd (aN h27) (by simp))).symm, st9.bare⟩
 have h27 := gQ h27p
 refine wp_skip (wp_seq (wp_seq (aA (rn st9 5 h26_ [] [(24, .bool (!decide (x.task = y.task)))] [qb 1 rfl 3, qb 0 rfl 3, .o] aD fun f31 h31_ => (aB (bH (h31_.at 24) (fun h32p => ?_) (fun h32p => ?_)))))))
 ·have h32 := gP h32p
  refine wp_seq (aA (sg (aE (aB (wr (aL results352 rfl ?_))))))
  exact ⟨fB (dO (fun e => by subst e; first | exact h32p rfl | exact absurd (aN h32) (by rw [cD rfl]; decide) | exact absurd (aN h32) (by simp))).symm, st9.bare⟩
 have h32 := gQ h32p
 refine wp_skip (wp_seq (aA (sg (aE (aB (wr (aL results352 rfl ?_)))))))
 exact ⟨fB (cD (Entry_ext h17p h22p h27p h32p)).symm, st9.bare⟩
theorem eqEntryS_n {v u : Value} {xs ys : List Entry} {fp gp : List Nat} (h : Sl w v xs fp) (g : Sl w u ys gp) :
  Calls prog 244 #[v, u] w fun e w' => e = .returned (.bool (eqB xs ys)) ∧ St w w' [] := by have zq1 := @func244; have zq2 := @ntmps244; have zq3 := @results244; have zq4 := @func352; have zq5 := @eqEntry_n; exact tq1_
theorem Task_ext {x y : Task} (h0 : x.state = y.state) (h1 : x.need = y.need) (h2 : x.try_ = y.try_) (h3 : x.until_ = y.until_) : x = y := by
 cases x; cases y; simp only at *; subst_vars; rfl
theorem eqTask_n {x y : Task} {cs ds : List Value} {fp gp : List Nat} (hc : Shape.C w cs x fp) (hd : Shape.C w ds y gp) :
  Calls prog 396 #[.agg cs.toArray, .agg ds.toArray] w (rB_ (eqB x y) w) := by
 refine bI func396 rfl ntmps396 aV (wp_seq (aA (sg (aI (cs := cs) rfl (St.start w) ?_)))); intro b1 W2 hb3 st4
 refine sg (aI (cs := ds) rfl st4 ?_); intro b6 W7 hb8 st9
 refine sg (aE (aB (wp_seq (wp_seq (aA ?_)))))
 have hk14 := hc
 obtain ⟨he14, rfl, hok14⟩ := hk14
 have he14 : _ = [I x.state, I x.need, I x.try_, I x.until_] := he14
 subst he14
 have hk15 := hd
 obtain ⟨he15, rfl, hok15⟩ := hk15
 have he15 : _ = [I y.state, I y.need, I y.try_, I y.until_] := he15
 subst he15
 refine rn st9 5 Ag.nil.put.put.put.put.put [] [(9, .bool (!decide (x.state = y.state)))] [qb 1 rfl 0, qb 0 rfl 0, .o] aD fun f16 h16_ => (aB (bH (h16_.at 9) (fun h17p => ?_) (fun h17p => ?_)))
 ·have h17 := gP h17p
  refine wp_seq (aA (sg (aE (aB (wr (aL results396 rfl ?_))))))
  exact ⟨fB (dO (fun e => by subst e; first | exact h17p rfl | exact absurd (aN h17) (by rw [cD rfl]; decide) | exact absurd (aN h17) (by simp))).symm, st9.bare⟩
 have h17 := gQ h17p
 refine wp_skip (wp_seq (wp_seq (aA (rn st9 5 h16_ [] [(14, .bool (!decide (x.need = y.need)))] [qb 1 rfl 1, qb 0 rfl 1, .o] aD fun f21 h21_ => (aB (bH (h21_.at 14) (fun h22p => ?_) (fun h22p => ?_)))))))
 ·have h22 := gP h22p
  refine wp_seq (aA (sg (aE (aB (wr (aL results396 rfl ?_))))))
  exact ⟨fB (dO (fun e => by subst e; first | exact h22p rfl | exact absurd (aN h22) (by rw [cD rfl]; decide) | exact absurd (aN h22) (by simp))).symm, st9.bare⟩
 have h22 := gQ h22p
 refine wp_skip (wp_seq (wp_seq (aA (rn st9 5 h21_ [] [(19, .bool (!decide (x.try_ = y.try_)))] [qb 1 rfl 2, qb 0 rfl 2, .o] aD fun f26 h26_ => (aB (bH (h26_.at 19) (fun h27p => ?_) (fun h27p => ?_)))))))
 ·have h27 := gP h27p
  refine wp_seq (aA (sg (aE (aB (wr (aL results396 rfl ?_))))))
  exact ⟨fB (dO (fun e => by subst e; first | exact h27p rfl | exact absurd (aN h27) (by rw [cD rfl]; decide) | exact absurd (aN h27) (by simp))).symm, st9.bare⟩
 have h27 := gQ h27p
 refine wp_skip (wp_seq (wp_seq (aA (rn st9 5 h26_ [] [(24, .bool (!decide (x.until_ = y.until_)))] [qb 1 rfl 3, qb 0 rfl 3, .o] aD fun f31 h31_ => (aB (bH (h31_.at 24) (fun h32p => ?_) (fun h32p => ?_)))))))
 ·have h32 := gP h32p
  refine wp_seq (aA (sg (aE (aB (wr (aL results396 rfl ?_))))))
  exact ⟨fB (dO (fun e => by subst e; first | exact h32p rfl | exact absurd (aN h32) (by rw [cD rfl]; decide) | exact absurd (aN h32) (by simp))).symm, st9.bare⟩
 have h32 := gQ h32p
 refine wp_skip (wp_seq (aA (sg (aE (aB (wr (aL results396 rfl ?_)))))))
 exact ⟨fB (cD (Task_ext h17p h22p h27p h32p)).symm, st9.bare⟩
theorem eqTaskS_n {v u : Value} {xs ys : List Task} {fp gp : List Nat} (h : Sl w v xs fp) (g : Sl w u ys gp) :
  Calls prog 353 #[v, u] w fun e w' => e = .returned (.bool (eqB xs ys)) ∧ St w w' [] := by have zq1 := @func353; have zq2 := @ntmps353; have zq3 := @results353; have zq4 := @func396; have zq5 := @eqTask_n; exact tq1_
theorem Run_ext {x y : Run} (h0 : x.id = y.id) (h1 : x.plan = y.plan) (h2 : x.state = y.state) (h3 : x.tasks = y.tasks) : x = y := by
 cases x; cases y; simp only at *; subst_vars; rfl
theorem eqRun_n {x y : Run} {cs ds : List Value} {fp gp : List Nat} (hc : Shape.C w cs x fp) (hd : Shape.C w ds y gp) :
  Calls prog 245 #[.agg cs.toArray, .agg ds.toArray] w (rB_ (eqB x y) w) := by
 refine bI func245 rfl ntmps245 aV (wp_seq (aA (sg (aI (cs := cs) rfl (St.start w) ?_)))); intro b1 W2 hb3 st4
 refine sg (aI (cs := ds) rfl st4 ?_); intro b6 W7 hb8 st9
 refine sg (aE (aB (wp_seq (wp_seq (aA ?_)))))
 have hk14 := hc
 obtain ⟨v14_0, v14_1, g14_0, g14_1, rfl, hok14, h14_0, h14_1, rfl⟩ := hk14
 have hk15 := hd
 obtain ⟨v15_0, v15_1, g15_0, g15_1, rfl, hok15, h15_0, h15_1, rfl⟩ := hk15
 refine rn st9 5 Ag.nil.put.put.put.put.put [] [(9, .bool (!decide (x.id = y.id)))] [qb 1 rfl 0, qb 0 rfl 0, .o] aD fun f16 h16_ => (aB (bH (h16_.at 9) (fun h17p => ?_) (fun h17p => ?_)))
 ·have h17 := gP h17p
  refine wp_seq (aA (sg (aE (aB (wr (aL results245 rfl ?_))))))
  exact ⟨fB (dO (fun e => by subst e; first | exact h17p rfl | exact absurd (aN h17) (by rw [cD rfl]; decide) | exact absurd (aN h17) (by simp))).symm, st9.bare⟩
 have h17 := gQ h17p
 refine wp_skip (wp_seq (wp_seq (aA (rc st9 6 h16_ [] [(15, .bool (!(eqB x.plan y.plan)))] [qb 1 rfl 1, qb 0 rfl 1, qc func166 rfl (fun W s b => eqPlan_n W (show Shape.C _ [I x.plan.prio, I x.plan.most, I x.plan.wait, I x.plan.tasks, v14_0] x.plan _ from ⟨_, _, rfl, qW, (h14_0.below s.below), rfl⟩) (show Shape.C _ [I y.plan.prio, I y.plan.most, I y.plan.wait, I y.plan.tasks, v15_0] y.plan _ from ⟨_, _, rfl, qW, (h15_0.below s.below), rfl⟩)), .o] aD fun f21 W22 h21_ st23 hb24 => (aB (bU (h21_.at 15) (fun h25 => ?_) (fun h25 => ?_)))))))
 ·refine wp_seq (aA (sg (aE (aB (wr (aL results245 rfl ?_))))))
  exact ⟨fB (dO (fun e => by subst e; first | exact absurd (aN h25) (by rw [cD rfl]; decide) | exact absurd (aN h25) (by simp))).symm, st23.bare⟩
 refine wp_skip (wp_seq (wp_seq (aA (rn st23 5 h21_ [] [(20, .bool (!decide (x.state = y.state)))] [qb 1 rfl 6, qb 0 rfl 6, .o] aD fun f29 h29_ => (aB (bH (h29_.at 20) (fun h30p => ?_) (fun h30p => ?_)))))))
 ·have h30 := gP h30p
  refine wp_seq (aA (sg (aE (aB (wr (aL results245 rfl ?_))))))
  exact ⟨fB (dO (fun e => by subst e; first | exact h30p rfl | exact absurd (aN h30) (by rw [cD rfl]; decide) | exact absurd (aN h30) (by simp))).symm, st23.bare⟩
 have h30 := gQ h30p
 refine wp_skip (wp_seq (wp_seq (aA (rc st23 6 h29_ [] [(26, .bool (!(eqB x.tasks y.tasks)))] [qb 1 rfl 7, qb 0 rfl 7, qc func353 rfl (fun W s b => eqTaskS_n W (h14_1.below s.below) (h15_1.below s.below)), .o] aD fun f34 W35 h34_ st36 hb37 => (aB (bU (h34_.at 26) (fun h38 => ?_) (fun h38 => ?_)))))))
 ·refine wp_seq (aA (sg (aE (aB (wr (aL results245 rfl ?_))))))
  exact ⟨fB (dO (fun e => by subst e; first | exact absurd (aN h38) (by rw [cD rfl]; decide) | exact absurd (aN h38) (by simp))).symm, st36.bare⟩
 refine wp_skip (wp_seq (aA (sg (aE (aB (wr (aL results245 rfl ?_)))))))
 exact ⟨fB (cD (Run_ext h17p (eqB_iff.1 (bS h25)) h30p (eqB_iff.1 (bS h38)))).symm, st36.bare⟩
theorem eqRunS_n {v u : Value} {xs ys : List Run} {fp gp : List Nat} (h : Sl w v xs fp) (g : Sl w u ys gp) :
  Calls prog 129 #[v, u] w (rB_ (eqB xs ys) w) := by
 have hcap := h.len_le
 have hcap2 := g.len_le
 refine bI func129 rfl ntmps129 aV (wp_seq (aA (sg (aE (aB (wp_seq (wp_seq (aA (rn (St.start w) 5 Ag.nil.put.put.put [] [(10, .bool (!decide ((xs.length : Int) = (ys.length : Int))))] [ql h, ql g, .o] aD fun f4 h4_ => (aB (bH (h4_.at 10) (fun h5p => ?_) (fun h5p => ?_))))))))))))
 ·refine wp_seq (aA (sg (aE (aB (wr (aL results129 rfl ?_))))))
  exact ⟨fB (dO (fun e => h5p (by rw [e]))).symm, (St.start w).bare⟩
 refine wp_skip (wp_seq (wp_seq (aA (sg (aE (aB (wp_block (aP (fun (m : Nat) (f : Nat → Value) (W : World) => ∃ (k : Nat), k ≤ xs.length ∧ xs.take k = ys.take k ∧ m = xs.length - k ∧ Ag [(0, v), (1, u), (5, I (k : Int))] f ∧ St w W ([])) (xs.length - 0) ?_ ?_))))))))
 ·exact ⟨0, Nat.zero_le _, rfl, rfl, (h4_.put.to aD), (St.start w)⟩
 intro m10 f11 W12 hJ13
 obtain ⟨k, hk, htk, rfl, hA15, st14⟩ := hJ13
 refine wp_seq (wp_seq (aA (rn st14 4 hA15 [] [(14, .bool (decide ((k : Int) < (xs.length : Int))))] [ql h, .o] aD fun f17 h17_ => (aB (aJ (h17_.at 14) (fun h18p => ?_) (fun h18p => ?_))))))
 ·refine wp_skip (wp_seq (wp_block (wp_seq ?_)))
  have hi51fab : k < xs.length := aC
  obtain ⟨b20, o20, cs20, f20, hp20, hr20, hc20, hm20⟩ := idx h (i := k) hi51fab
  have hi28e79 : k < ys.length := aC
  obtain ⟨b21, o21, cs21, f21, hp21, hr21, hc21, hm21⟩ := idx g (i := k) hi28e79
  refine rd st14 h17_ [] [(26, .bool (!(eqB (xs[k]'hi51fab) (ys[k]'hi28e79))))] [qx hp20, qrw hr20 (Shape.len hc20), qx hp21, qrw hr21 (Shape.len hc21), qc (args := [.agg cs20.toArray, .agg cs21.toArray]) (v := .bool (eqB (xs[k]'hi51fab) (ys[k]'hi28e79))) func245 rfl (fun W s b => eqRun_n W (aX hc20 s.below) (aX hc21 s.below)), .o] aD aD fun f22 W23 h22_ st24 hb25 => (bU (h22_.at 26) (fun h26 => ?_) (fun h26 => ?_))
  ·refine wp_seq (aA (sg (aE (aB (wr (aL results129 rfl ?_))))))
   have hne : ¬ xs[k] = ys[k]'(by omega) := fun e => absurd (aN h26) (by rw [cD e]; decide)
   exact ⟨fB (dO (fun e => hne (by subst e; rfl))).symm, st24.bare⟩
  refine wp_skip (aA (rn st24 3 h22_ [5] [(5, I ((k : Int) + 1))] [qad (k : Int) 1] aD fun f30 h30_ => (aB ?_)))
  exact ⟨_, xs.length - (k + 1), aC, rfl, k + 1, aC, (kF aC aC htk (eqB_iff.1 (bS h26))), rfl, (h30_.to aD), st24⟩
 refine wp_exit (wp_seq (aA (sg (aE (aB (wr (aL results129 rfl ?_)))))))
 obtain rfl : k = xs.length := by omega
 rw [take_length, take_of_length_le aC] at htk
 exact ⟨fB (cD htk).symm, st14.bare⟩
theorem eqEntrySS_n {v u : Value} {xs ys : List (List Entry)} {fp gp : List Nat} (h : Sl w v xs fp) (g : Sl w u ys gp) :
  Calls prog 128 #[v, u] w (rB_ (eqB xs ys) w) := by
 have hcap := h.len_le
 have hcap2 := g.len_le
 refine bI func128 rfl ntmps128 aV (wp_seq (aA (sg (aE (aB (wp_seq (wp_seq (aA (rn (St.start w) 5 Ag.nil.put.put.put [] [(10, .bool (!decide ((xs.length : Int) = (ys.length : Int))))] [ql h, ql g, .o] aD fun f4 h4_ => (aB (bH (h4_.at 10) (fun h5p => ?_) (fun h5p => ?_))))))))))))
 ·refine wp_seq (aA (sg (aE (aB (wr (aL results128 rfl ?_))))))
  exact ⟨fB (dO (fun e => h5p (by rw [e]))).symm, (St.start w).bare⟩
 refine wp_skip (wp_seq (wp_seq (aA (sg (aE (aB (wp_block (aP (fun (m : Nat) (f : Nat → Value) (W : World) => ∃ (k : Nat), k ≤ xs.length ∧ xs.take k = ys.take k ∧ m = xs.length - k ∧ Ag [(0, v), (1, u), (5, I (k : Int))] f ∧ St w W ([])) (xs.length - 0) ?_ ?_))))))))
 ·exact ⟨0, Nat.zero_le _, rfl, rfl, (h4_.put.to aD), (St.start w)⟩
 intro m10 f11 W12 hJ13
 obtain ⟨k, hk, htk, rfl, hA15, st14⟩ := hJ13
 refine wp_seq (wp_seq (aA (rn st14 4 hA15 [] [(14, .bool (decide ((k : Int) < (xs.length : Int))))] [ql h, .o] aD fun f17 h17_ => (aB (aJ (h17_.at 14) (fun h18p => ?_) (fun h18p => ?_))))))
 ·refine wp_skip (wp_seq (wp_block (wp_seq ?_)))
  have hi51fab : k < xs.length := aC
  obtain ⟨b20, o20, cs20, f20, hp20, hr20, hc20, hm20⟩ := idx h (i := k) hi51fab
  have hk20 := hc20
  obtain ⟨v21, rfl, h22⟩ := hk20
  have hi28e79 : k < ys.length := aC
  obtain ⟨b23, o23, cs23, f23, hp23, hr23, hc23, hm23⟩ := idx g (i := k) hi28e79
  have hk23 := hc23
  obtain ⟨v24, rfl, h25⟩ := hk23
  refine rd st14 h17_ [] [(26, .bool (!(eqB (xs[k]'hi51fab) (ys[k]'hi28e79))))] [qx hp20, qr hr20 0, qx hp23, qr hr23 0, qc (args := [v21, v24]) (v := .bool (eqB (xs[k]'hi51fab) (ys[k]'hi28e79))) func244 rfl (fun W s b => eqEntryS_n W (h22.below s.below) (h25.below s.below)), .o] aD aD fun f26 W27 h26_ st28 hb29 => (bU (h26_.at 26) (fun h30 => ?_) (fun h30 => ?_))
  ·refine wp_seq (aA (sg (aE (aB (wr (aL results128 rfl ?_))))))
   have hne : ¬ xs[k] = ys[k]'(by omega) := fun e => absurd (aN h30) (by rw [cD e]; decide)
   exact ⟨fB (dO (fun e => hne (by subst e; rfl))).symm, st28.bare⟩
  refine wp_skip (aA (rn st28 3 h26_ [5] [(5, I ((k : Int) + 1))] [qad (k : Int) 1] aD fun f34 h34_ => (aB ?_)))
  exact ⟨_, xs.length - (k + 1), aC, rfl, k + 1, aC, (kF aC aC htk (eqB_iff.1 (bS h30))), rfl, (h34_.to aD), st28⟩
 refine wp_exit (wp_seq (aA (sg (aE (aB (wr (aL results128 rfl ?_)))))))
 obtain rfl : k = xs.length := by omega
 rw [take_length, take_of_length_le aC] at htk
 exact ⟨fB (cD htk).symm, st14.bare⟩
theorem Yard_ext {x y : Yard} (h0 : x.now = y.now) (h1 : x.seq = y.seq) (h2 : x.shelf = y.shelf) (h3 : x.runs = y.runs) : x = y := by
 cases x; cases y; simp only at *; subst_vars; rfl
theorem tO {x y : Yard} {cs ds : List Value} {fp gp : List Nat} (hc : Shape.C w cs x fp) (hd : Shape.C w ds y gp) :
  Calls prog 36 #[.agg cs.toArray, .agg ds.toArray] w (rB_ (eqB x y) w) := by
 refine bI func36 rfl ntmps36 aV (wp_seq (aA (sg (aI (cs := cs) rfl (St.start w) ?_)))); intro b1 W2 hb3 st4
 refine sg (aI (cs := ds) rfl st4 ?_); intro b6 W7 hb8 st9
 refine sg (aE (aB (wp_seq (wp_seq (aA ?_)))))
 have hk14 := hc
 obtain ⟨v14_0, v14_1, g14_0, g14_1, rfl, hok14, h14_0, h14_1, rfl⟩ := hk14
 have hk15 := hd
 obtain ⟨v15_0, v15_1, g15_0, g15_1, rfl, hok15, h15_0, h15_1, rfl⟩ := hk15
 refine rn st9 5 Ag.nil.put.put.put.put.put [] [(9, .bool (!decide (x.now = y.now)))] [qb 1 rfl 0, qb 0 rfl 0, .o] aD fun f16 h16_ => (aB (bH (h16_.at 9) (fun h17p => ?_) (fun h17p => ?_)))
 ·have h17 := gP h17p
  refine wp_seq (aA (sg (aE (aB (wr (aL results36 rfl ?_))))))
  exact ⟨fB (dO (fun e => by subst e; first | exact h17p rfl | exact absurd (aN h17) (by rw [cD rfl]; decide) | exact absurd (aN h17) (by simp))).symm, st9.bare⟩
 have h17 := gQ h17p
 refine wp_skip (wp_seq (wp_seq (aA (rn st9 5 h16_ [] [(14, .bool (!decide (x.seq = y.seq)))] [qb 1 rfl 1, qb 0 rfl 1, .o] aD fun f21 h21_ => (aB (bH (h21_.at 14) (fun h22p => ?_) (fun h22p => ?_)))))))
 ·have h22 := gP h22p
  refine wp_seq (aA (sg (aE (aB (wr (aL results36 rfl ?_))))))
  exact ⟨fB (dO (fun e => by subst e; first | exact h22p rfl | exact absurd (aN h22) (by rw [cD rfl]; decide) | exact absurd (aN h22) (by simp))).symm, st9.bare⟩
 have h22 := gQ h22p
 refine wp_skip (wp_seq (wp_seq (aA (rc st9 6 h21_ [] [(20, .bool (!(eqB x.shelf y.shelf)))] [qb 1 rfl 2, qb 0 rfl 2, qc func128 rfl (fun W s b => eqEntrySS_n W (h14_0.below s.below) (h15_0.below s.below)), .o] aD fun f26 W27 h26_ st28 hb29 => (aB (bU (h26_.at 20) (fun h30 => ?_) (fun h30 => ?_)))))))
 ·refine wp_seq (aA (sg (aE (aB (wr (aL results36 rfl ?_))))))
  exact ⟨fB (dO (fun e => by subst e; first | exact absurd (aN h30) (by rw [cD rfl]; decide) | exact absurd (aN h30) (by simp))).symm, st28.bare⟩
 refine wp_skip (wp_seq (wp_seq (aA (rc st28 6 h26_ [] [(26, .bool (!(eqB x.runs y.runs)))] [qb 1 rfl 3, qb 0 rfl 3, qc func129 rfl (fun W s b => eqRunS_n W (h14_1.below s.below) (h15_1.below s.below)), .o] aD fun f34 W35 h34_ st36 hb37 => (aB (bU (h34_.at 26) (fun h38 => ?_) (fun h38 => ?_)))))))
 ·refine wp_seq (aA (sg (aE (aB (wr (aL results36 rfl ?_))))))
  exact ⟨fB (dO (fun e => by subst e; first | exact absurd (aN h38) (by rw [cD rfl]; decide) | exact absurd (aN h38) (by simp))).symm, st36.bare⟩
 refine wp_skip (wp_seq (aA (sg (aE (aB (wr (aL results36 rfl ?_)))))))
 exact ⟨fB (cD (Yard_ext h17p h22p (eqB_iff.1 (bS h30)) (eqB_iff.1 (bS h38)))).symm, st36.bare⟩
theorem File_ext {x y : File} (h0 : x.name = y.name) (h1 : x.data = y.data) (h2 : x.safe = y.safe) : x = y := by
 cases x; cases y; simp only at *; subst_vars; rfl
theorem eqFile_n {x y : File} {cs ds : List Value} {fp gp : List Nat} (hc : Shape.C w cs x fp) (hd : Shape.C w ds y gp) :
  Calls prog 246 #[.agg cs.toArray, .agg ds.toArray] w (rB_ (eqB x y) w) := by
 refine bI func246 rfl ntmps246 aV (wp_seq (aA (sg (aI (cs := cs) rfl (St.start w) ?_)))); intro b1 W2 hb3 st4
 refine sg (aI (cs := ds) rfl st4 ?_); intro b6 W7 hb8 st9
 refine sg (aE (aB (wp_seq (wp_seq (aA ?_)))))
 have hk14 := hc
 obtain ⟨he14, rfl, hok14⟩ := hk14
 have he14 : _ = [.string x.name, .string x.data, I x.safe] := he14
 subst he14
 have hk15 := hd
 obtain ⟨he15, rfl, hok15⟩ := hk15
 have he15 : _ = [.string y.name, .string y.data, I y.safe] := he15
 subst he15
 refine rn st9 5 Ag.nil.put.put.put.put.put [] [(9, .bool (!decide (x.name = y.name)))] [qb 1 rfl 0, qb 0 rfl 0, .o] aD fun f16 h16_ => (aB (bH (h16_.at 9) (fun h17p => ?_) (fun h17p => ?_)))
 ·have h17 := gP h17p
  refine wp_seq (aA (sg (aE (aB (wr (aL results246 rfl ?_))))))
  exact ⟨fB (dO (fun e => by subst e; first | exact h17p rfl | exact absurd (aN h17) (by rw [cD rfl]; decide) | exact absurd (aN h17) (by simp))).symm, st9.bare⟩
 have h17 := gQ h17p
 refine wp_skip (wp_seq (wp_seq (aA (rn st9 5 h16_ [] [(14, .bool (!decide (x.data = y.data)))] [qb 1 rfl 1, qb 0 rfl 1, .o] aD fun f21 h21_ => (aB (bH (h21_.at 14) (fun h22p => ?_) (fun h22p => ?_)))))))
 ·have h22 := gP h22p
  refine wp_seq (aA (sg (aE (aB (wr (aL results246 rfl ?_))))))
  exact ⟨fB (dO (fun e => by subst e; first | exact h22p rfl | exact absurd (aN h22) (by rw [cD rfl]; decide) | exact absurd (aN h22) (by simp))).symm, st9.bare⟩
 have h22 := gQ h22p
 refine wp_skip (wp_seq (wp_seq (aA (rn st9 5 h21_ [] [(19, .bool (!decide (x.safe = y.safe)))] [qb 1 rfl 2, qb 0 rfl 2, .o] aD fun f26 h26_ => (aB (bH (h26_.at 19) (fun h27p => ?_) (fun h27p => ?_)))))))
 ·have h27 := gP h27p
  refine wp_seq (aA (sg (aE (aB (wr (aL results246 rfl ?_))))))
  exact ⟨fB (dO (fun e => by subst e; first | exact h27p rfl | exact absurd (aN h27) (by rw [cD rfl]; decide) | exact absurd (aN h27) (by simp))).symm, st9.bare⟩
 have h27 := gQ h27p
 refine wp_skip (wp_seq (aA (sg (aE (aB (wr (aL results246 rfl ?_)))))))
 exact ⟨fB (cD (File_ext h17p h22p h27p)).symm, st9.bare⟩
theorem eqFileS_n {v u : Value} {xs ys : List File} {fp gp : List Nat} (h : Sl w v xs fp) (g : Sl w u ys gp) :
  Calls prog 130 #[v, u] w fun e w' => e = .returned (.bool (eqB xs ys)) ∧ St w w' [] := by have zq1 := @func130; have zq2 := @ntmps130; have zq3 := @results130; have zq4 := @func246; have zq5 := @eqFile_n; exact tq1_
theorem Disk_ext {x y : Disk} (h0 : x.files = y.files) : x = y := by
 cases x; cases y; simp only at *; subst_vars; rfl
theorem eqDisk_n {x y : Disk} {cs ds : List Value} {fp gp : List Nat} (hc : Shape.C w cs x fp) (hd : Shape.C w ds y gp) :
  Calls prog 37 #[.agg cs.toArray, .agg ds.toArray] w (rB_ (eqB x y) w) := by
 refine bI func37 rfl ntmps37 aV (wp_seq (aA (sg (aI (cs := cs) rfl (St.start w) ?_)))); intro b1 W2 hb3 st4
 refine sg (aI (cs := ds) rfl st4 ?_); intro b6 W7 hb8 st9
 refine sg (aE (aB (wp_seq (wp_seq (aA ?_)))))
 have hk14 := hc
 obtain ⟨v14_0, g14_0, rfl, hok14, h14_0, rfl⟩ := hk14
 have hk15 := hd
 obtain ⟨v15_0, g15_0, rfl, hok15, h15_0, rfl⟩ := hk15
 refine rc st9 6 Ag.nil.put.put.put.put.put [] [(10, .bool (!(eqB x.files y.files)))] [qb 1 rfl 0, qb 0 rfl 0, qc func130 rfl (fun W s b => eqFileS_n W (h14_0.below s.below) (h15_0.below s.below)), .o] aD fun f16 W17 h16_ st18 hb19 => (aB (bU (h16_.at 10) (fun h20 => ?_) (fun h20 => ?_)))
 ·refine wp_seq (aA (sg (aE (aB (wr (aL results37 rfl ?_))))))
  exact ⟨fB (dO (fun e => by subst e; first | exact absurd (aN h20) (by rw [cD rfl]; decide) | exact absurd (aN h20) (by simp))).symm, st18.bare⟩
 refine wp_skip (wp_seq (aA (sg (aE (aB (wr (aL results37 rfl ?_)))))))
 exact ⟨fB (cD (Disk_ext (eqB_iff.1 (bS h20)))).symm, st18.bare⟩
end Go.Proofs.YtanpcpoogkdlaaaGreat
namespace Go.Proofs.YtanpcpoogkdlaaaGreat
set_option linter.unusedSimpArgs false
set_option linter.unusedVariables false
set_option maxHeartbeats 2000000
open Go.RowKit Go.Proofs.Tryz List Go.Lib
section
variable {P : Program} {n : Nat} {f : Nat → Value} {W : World} {Q : Exit → Act → World → Prop} {K : Value → World → Prop} {d : Option Tmp} {ty : TypeId} {pos : String} {af : Array Go.Edge} {g : Option (Nat × Bool)} {x y : Operand} {t t' : TypeId}
theorem gF (a : Nat) (h : a < 2 ^ 32) : (BitVec.ofInt 64 (a : Int)).toNat = a := by
 simp [BitVec.toNat_ofInt]
 omega
theorem stp_or {a b : Nat} (hx : ev n f x = I (a : Int)) (hy : ev n f y = I (b : Int)) (ha : a < 2 ^ 32) (hb : b < 2 ^ 32) (k : K (I ((a ||| b : Nat) : Int)) W) : Stp P n ⟨d, .binOp .or t x y t', ty, pos, af, g⟩ f W Q K :=
 Stp.run (v := I ((a ||| b : Nat) : Int)) (by
  have h := Nat.or_lt_two_pow ha hb
  have hw : IntKind.i64.wrap ((BitVec.ofInt 64 (a : Int) ||| BitVec.ofInt 64 (b : Int)).toNat : Int) = ((a ||| b : Nat) : Int) := by
   rw [BitVec.toNat_or, gF a ha, gF b hb]
   exact fD ⟨by omega, by omega⟩
  simp [execOp, hx, hy, go_sem]
  exact hw) k
theorem stp_and {a b : Nat} (hx : ev n f x = I (a : Int)) (hy : ev n f y = I (b : Int)) (ha : a < 2 ^ 32) (hb : b < 2 ^ 32) (k : K (I ((a &&& b : Nat) : Int)) W) : Stp P n ⟨d, .binOp .and t x y t', ty, pos, af, g⟩ f W Q K :=
 Stp.run (v := I ((a &&& b : Nat) : Int)) (by
  have h : a &&& b < 2 ^ 32 := Nat.and_lt_two_pow _ hb
  have hw : IntKind.i64.wrap ((BitVec.ofInt 64 (a : Int) &&& BitVec.ofInt 64 (b : Int)).toNat : Int) = ((a &&& b : Nat) : Int) := by
   rw [BitVec.toNat_and, gF a ha, gF b hb]
   exact fD ⟨by omega, by omega⟩
  simp [execOp, hx, hy, go_sem]
  exact hw) k
end
end Go.Proofs.YtanpcpoogkdlaaaGreat
namespace Go.Proofs.YtanpcpoogkdlaaaGreat
set_option linter.unusedSimpArgs false
set_option linter.unusedVariables false
set_option maxHeartbeats 2000000
open Go.RowKit Go.Proofs.Tryz List Go.Lib
section
variable {P : Program} {n : Nat} {f : Nat → Value} {W : World} {Q : Exit → Act → World → Prop} {K : Value → World → Prop} {d : Option Tmp} {ty : TypeId} {pos : String} {af : Array Go.Edge} {g : Option (Nat × Bool)} {x y : Operand} {t t' : TypeId}
theorem pow_fin : ∀ s : Fin 60, IntKind.i64.wrap (1 * 2 ^ min s.val 64) = ((1 <<< s.val : Nat) : Int) := by decide +kernel
theorem stp_shl1 {s : Nat} (hx : ev n f x = I 1) (hy : ev n f y = I (s : Int)) (hs : s < 60) (k : K (I ((1 <<< s : Nat) : Int)) W) : Stp P n ⟨d, .binOp .shl t x y t', ty, pos, af, g⟩ f W Q K :=
 Stp.run (v := I ((1 <<< s : Nat) : Int)) (by
  have h := pow_fin ⟨s, hs⟩
  have hn : ¬ ((s : Int) < 0) := by omega
  simp only [execOp, hx, hy, Sem.run_bind, binOp, Op.shift, hn, if_false, Int.toNat_natCast, Sem.run_pure, Result.andThen_ok]
  simp only [show IntKind.i64.bits = 64 from rfl, h]
  rfl) k
theorem stp_shr {a s : Nat} (hx : ev n f x = I (a : Int)) (hy : ev n f y = I (s : Int)) (hs : s < 60) (k : K (I ((a >>> s : Nat) : Int)) W) : Stp P n ⟨d, .binOp .shr t x y t', ty, pos, af, g⟩ f W Q K :=
 Stp.run (v := I ((a >>> s : Nat) : Int)) (by
  have hn : ¬ ((s : Int) < 0) := by omega
  have hm : min s 64 = s := by omega
  have h : Int.fdiv (a : Int) (2 ^ s) = ((a >>> s : Nat) : Int) := by
   rw [Nat.shiftRight_eq_div_pow, Int.fdiv_eq_ediv_of_nonneg _ (by exact Int.le_of_lt (Int.pow_pos aC))]
   push_cast; rfl
  simp only [execOp, hx, hy, Sem.run_bind, binOp, Op.shift, hn, if_false, Int.toNat_natCast, Sem.run_pure, Result.andThen_ok]
  simp only [show IntKind.i64.bits = 64 from rfl, hm, h]
  rfl) k
end
end Go.Proofs.YtanpcpoogkdlaaaGreat
namespace Go.Proofs.YtanpcpoogkdlaaaGreat
set_option linter.unusedSimpArgs false
set_option linter.unusedVariables false
set_option maxHeartbeats 2000000
open Go.RowKit Go.Proofs.Tryz List Go.Lib
def orI (a b : Int) : Int := ((a.toNat ||| b.toNat : Nat) : Int)
def andI (a b : Int) : Int := ((a.toNat &&& b.toNat : Nat) : Int)
def wD (s : Int) : Int := ((1 <<< s.toNat : Nat) : Int)
def yM (a s : Int) : Int := ((a.toNat >>> s.toNat : Nat) : Int)
section
variable {P : Program} {n : Nat} {f : Nat → Value} {W : World} {Q : Exit → Act → World → Prop} {K : Value → World → Prop} {d : Option Tmp} {ty : TypeId} {pos : String} {af : Array Go.Edge} {g : Option (Nat × Bool)} {x y : Operand} {t t' : TypeId}
theorem pA {x : Operand} {a : Int} (h : ev n f x = I a) (h0 : 0 ≤ a) : ev n f x = I ((a.toNat : Nat) : Int) := by rw [Int.toNat_of_nonneg h0]; exact h
theorem zV {a b : Int} (hx : ev n f x = I a) (hy : ev n f y = I b) (ha : 0 ≤ a ∧ a < 4294967296) (hb : 0 ≤ b ∧ b < 4294967296) (k : K (I (orI a b)) W) : Stp P n ⟨d, .binOp .or t x y t', ty, pos, af, g⟩ f W Q K :=
 stp_or (pA hx ha.1) (pA hy hb.1) aC aC k
theorem stp_andI {a b : Int} (hx : ev n f x = I a) (hy : ev n f y = I b) (ha : 0 ≤ a ∧ a < 4294967296) (hb : 0 ≤ b ∧ b < 4294967296) (k : K (I (andI a b)) W) : Stp P n ⟨d, .binOp .and t x y t', ty, pos, af, g⟩ f W Q K :=
 stp_and (pA hx ha.1) (pA hy hb.1) aC aC k
theorem stp_shlI {s : Int} (hx : ev n f x = I 1) (hy : ev n f y = I s) (hs : 0 ≤ s ∧ s < 60) (k : K (I (wD s)) W) : Stp P n ⟨d, .binOp .shl t x y t', ty, pos, af, g⟩ f W Q K :=
 stp_shl1 hx (pA hy hs.1) aC k
theorem stp_shrI {a s : Int} (hx : ev n f x = I a) (hy : ev n f y = I s) (ha : 0 ≤ a) (hs : 0 ≤ s ∧ s < 60) (k : K (I (yM a s)) W) : Stp P n ⟨d, .binOp .shr t x y t', ty, pos, af, g⟩ f W Q K :=
 stp_shr (pA hx ha) (pA hy hs.1) aC k
end
theorem wK {a b : Int} (ha : 0 ≤ a ∧ a < 4294967296) (hb : 0 ≤ b ∧ b < 4294967296) : 0 ≤ orI a b ∧ orI a b < 4294967296 := by
 have h := Nat.or_lt_two_pow (n := 32) (x := a.toNat) (y := b.toNat) aC aC
 unfold orI
 generalize a.toNat ||| b.toNat = m at h ⊢
 omega
theorem sI {s : Int} (hs : 0 ≤ s ∧ s < 32) : 0 ≤ wD s ∧ wD s < 4294967296 := by
 have h : 1 <<< s.toNat < 2 ^ 32 := by
  rw [Nat.one_shiftLeft]
  exact Nat.pow_lt_pow_right aC aC
 unfold wD
 generalize 1 <<< s.toNat = m at h ⊢
 omega
theorem shrI_rng {a s : Int} (ha : 0 ≤ a ∧ a < 4294967296) : 0 ≤ yM a s ∧ yM a s < 4294967296 := by
 have h := Nat.shiftRight_le a.toNat s.toNat
 unfold yM
 generalize a.toNat >>> s.toNat = m at h ⊢
 omega
theorem andI_one (a s : Int) : andI (yM a s) 1 = if a.toNat.testBit s.toNat then 1 else 0 := by
 unfold andI yM
 simp only [Int.toNat_natCast, Int.toNat_one]
 rw [Nat.testBit, Nat.and_comm 1, ]
 have h := Nat.and_one_is_mod (a.toNat >>> s.toNat)
 rw [h]
 have : a.toNat >>> s.toNat % 2 = 0 ∨ a.toNat >>> s.toNat % 2 = 1 := by omega
 rcases this with h | h <;> simp [h]
/-! ### Lists of such numbers -/
def cR (ms : List Nat) : List Int := ms.map (fun m : Nat => (m : Int))
theorem vV (ms : List Nat) : (cR ms).length = ms.length := by simp [cR]
theorem gZ {ms : List Nat} (hB : ∀ m ∈ ms, m < 4294967296) (i : Nat) (h : i < (cR ms).length) : 0 ≤ (cR ms)[i] ∧ (cR ms)[i] < 4294967296 := by
 simp only [cR, getElem_map]
 have := hB (ms[i]'(by simpa [cR] using h)) (getElem_mem _)
 omega
theorem tS {ms : List Nat} {i : Nat} (h : i < (cR ms).length) : (cR ms)[i].toNat = ms.getD i 0 := by
 have h' : i < ms.length := by simpa [cR] using h
 simp [cR, List.getD, h']
theorem castL_set (ms : List Nat) (i : Nat) (m : Nat) : (cR ms).set i (m : Int) = cR (ms.set i m) := by
 simp [cR, map_set]
theorem castL_rep (n : Nat) : List.replicate n (0 : Int) = cR (List.replicate n 0) := by simp [cR]
end Go.Proofs.YtanpcpoogkdlaaaGreat
namespace Go.Proofs.YtanpcpoogkdlaaaGreat
set_option linter.unusedSimpArgs false
set_option linter.unusedVariables false
set_option maxHeartbeats 2000000
open Go.RowKit Go.Proofs.Tryz List Go.Lib
def gV (a b : Int) : Int := ((a.toNat ^^^ b.toNat : Nat) : Int)
theorem nV {a b : Int} (ha : 0 ≤ a ∧ a < 4294967296) (hb : 0 ≤ b ∧ b < 4294967296) : 0 ≤ gV a b ∧ gV a b < 4294967296 := by
 have h := Nat.xor_lt_two_pow (n := 32) (x := a.toNat) (y := b.toNat) aC aC
 unfold gV
 generalize a.toNat ^^^ b.toNat = m at h ⊢
 omega
section
variable {P : Program} {n : Nat} {f : Nat → Value} {W : World} {Q : Exit → Act → World → Prop} {K : Value → World → Prop} {d : Option Tmp} {ty : TypeId} {pos : String} {af : Array Go.Edge} {g : Option (Nat × Bool)} {x y : Operand} {t t' : TypeId}
theorem stp_xor {a b : Nat} (hx : ev n f x = I (a : Int)) (hy : ev n f y = I (b : Int)) (ha : a < 2 ^ 32) (hb : b < 2 ^ 32) (k : K (I ((a ^^^ b : Nat) : Int)) W) : Stp P n ⟨d, .binOp .xor t x y t', ty, pos, af, g⟩ f W Q K :=
 Stp.run (v := I ((a ^^^ b : Nat) : Int)) (by
  have h := Nat.xor_lt_two_pow ha hb
  have hw : IntKind.i64.wrap ((BitVec.ofInt 64 (a : Int) ^^^ BitVec.ofInt 64 (b : Int)).toNat : Int) = ((a ^^^ b : Nat) : Int) := by
   rw [BitVec.toNat_xor, gF a ha, gF b hb]
   exact fD ⟨by omega, by omega⟩
  simp [execOp, hx, hy, go_sem]
  exact hw) k
theorem sC {a b : Int} (hx : ev n f x = I a) (hy : ev n f y = I b) (ha : 0 ≤ a ∧ a < 4294967296) (hb : 0 ≤ b ∧ b < 4294967296) (k : K (I (gV a b)) W) : Stp P n ⟨d, .binOp .xor t x y t', ty, pos, af, g⟩ f W Q K :=
 stp_xor (pA hx ha.1) (pA hy hb.1) aC aC k
theorem stp_sidx {s : ByteArray} {i : Nat} (hu : P.underlying t = some .string) (hx : ev n f x = .string s) (hy : ev n f y = I (i : Int)) (h : i < s.data.toList.length) (k : K (.int .u8 ((s.data.toList[i]'h).toNat : Int)) W) : Stp P n ⟨d, .index t x y, ty, pos, af, g⟩ f W Q K :=
 Stp.run (v := .int .u8 ((s.data.toList[i]'h).toNat : Int)) (by
  have hs : 0 ≤ (i : Int) ∧ (i : Int) < s.size := ⟨by omega, by have : s.size = s.data.toList.length := rfl; omega⟩
  have := run_index_string (P := P) (w := W) t s .i64 i hu
  rw [dif_pos hs] at this
  simp only [execOp, hx, hy, Sem.run_bind, this, Result.andThen_ok]; rfl) k
theorem stp_b2i {a : Int} (hs : P.underlying t = some (.int .u8)) (hd : P.underlying t' = some (.int .i64)) (hx : ev n f x = .int .u8 a) (h : 0 ≤ a ∧ a < 256) (k : K (I a) W) : Stp P n ⟨d, .convert t t' x, ty, pos, af, g⟩ f W Q K :=
 Stp.run (v := I a) (by
  have hk : P.intKind t' = .i64 := by simp [Program.intKind, hd]
  have hw : IntKind.i64.wrap a = a := fD ⟨by omega, by omega⟩
  have hd' : P.underlying t' = some (.int (P.intKind t')) := by rw [hk]; exact hd
  have := run_convert_int (P := P) W t t' .u8 a (by rw [hs]; rfl) hd'
  rw [hk, hw] at this
  simp only [execOp, hx, Sem.run_bind, this, Result.andThen_ok]; rfl) k
end
theorem Elems.byte1 {W : World} {e : Int} (h : 0 ≤ e ∧ e < 256) : Elems W [.int .u8 e] [UInt8.ofNat e.toNat] [] := by
 have : ((UInt8.ofNat e.toNat).toNat : Int) = e := by simp [UInt8.toNat_ofNat']; omega
 exact Elems.one1 ⟨by show [Value.int .u8 e] = [.int .u8 ((UInt8.ofNat e.toNat).toNat : Int)]; rw [this], rfl, trivial⟩
theorem yD (b : UInt8) : 0 ≤ (b.toNat : Int) ∧ (b.toNat : Int) < 256 := by have := b.toNat_lt; omega
def aR (n : Nat) : List UInt8 := if 128 ≤ n then UInt8.ofNat (128 + n % 128) :: aR (n / 128) else [UInt8.ofNat n]
termination_by n
decreasing_by omega
theorem iB {n : Nat} (h : 128 ≤ n) : aR n = UInt8.ofNat (128 + n % 128) :: aR (n / 128) := by rw [aR, if_pos h]
theorem eL {n : Nat} (h : ¬ 128 ≤ n) : aR n = [UInt8.ofNat n] := by rw [aR, if_neg h]
theorem mW : ∀ (d n : Nat), n < 128 ^ (d + 1) → (aR n).length ≤ d + 1 := by
 intro d
 induction d with
 | zero => intro n h; rw [eL (by simpa using h)]; simp
 | succ d ih =>
  intro n h
  by_cases h1 : 128 ≤ n
  ·rw [iB h1, length_cons]
   have := ih (n / 128) (by rw [Nat.div_lt_iff_lt_mul aC]; rw [Nat.pow_succ] at h; exact h)
   omega
  rw [eL h1]; simp
def dG (n : Int) : ByteArray := if inB n 0 1000000000 then ⟨(aR n.toNat).toArray⟩ else ⟨#[]⟩
def lZ (s : Int) : Int := if s % 2 = 1 then gV (s / 2) 3988292384 else s / 2
def kX : Nat → Int → Int
 | 0, s => s
 | k + 1, s => lZ (kX k s)
theorem crcBit_rng {s : Int} (h : 0 ≤ s ∧ s < 4294967296) : 0 ≤ lZ s ∧ lZ s < 4294967296 := by
 unfold lZ
 split
 ·exact nV aC aC
 omega
theorem tR {s : Int} (h : 0 ≤ s ∧ s < 4294967296) : ∀ k, 0 ≤ kX k s ∧ kX k s < 4294967296
 | 0 => h
 | k + 1 => crcBit_rng (tR h k)
def iR (l : List UInt8) : Int := l.foldl (fun s b => kX 8 (gV s (b.toNat : Int))) 4294967295
theorem xE (l : List UInt8) : 0 ≤ iR l ∧ iR l < 4294967296 := by
 unfold iR
 have : ∀ (l : List UInt8) (s : Int), 0 ≤ s ∧ s < 4294967296 → 0 ≤ l.foldl (fun s b => kX 8 (gV s (b.toNat : Int))) s ∧ l.foldl (fun s b => kX 8 (gV s (b.toNat : Int))) s < 4294967296 := by
  intro l
  induction l with
  | nil => intro s h; exact h
  | cons b l ih => intro s h; exact ih _ (tR (nV h (by have := yD b; omega)) 8)
 exact this l _ aC
theorem sumL_to {l : List UInt8} {i : Nat} (h : i < l.length) : iR (l.take (i + 1)) = kX 8 (gV (iR (l.take i)) (l[i].toNat : Int)) := by
 unfold iR
 rw [take_succ_eq_append_getElem h, foldl_append]; rfl
def fF (t : ByteArray) : Int := gV (iR t.data.toList) 4294967295
theorem sumOf_rng (t : ByteArray) : 0 ≤ fF t ∧ fF t < 4294967296 := nV (xE _) aC
theorem kC (id : Int) : (dG id).size ≤ 5 := by
 unfold dG
 split
 ·rename_i h
  rw [inB_iff'] at h
  show (aR id.toNat).toArray.size ≤ 5
  rw [size_toArray]
  exact mW 4 _ aC
 exact Nat.zero_le _
end Go.Proofs.YtanpcpoogkdlaaaGreat
namespace Go.Proofs.YtanpcpoogkdlaaaGreat
set_option linter.unusedSimpArgs false
set_option linter.unusedVariables false
set_option maxRecDepth 100000
set_option maxHeartbeats 2000000
open Go.RowKit Go.Proofs.Tryz List
variable (w : World) {cs ds : List Value} {fp gp : List Nat}
def dL : List UInt8 → Nat
 | [] => 0
 | b :: l => b.toNat % 128 + 128 * dL l
def mV : List UInt8 → Prop
 | [] => False
 | [b] => b.toNat < 128
 | b :: c :: l => 128 ≤ b.toNat ∧ mV (c :: l)
theorem lE {l : List UInt8} (h : mV l) : l ≠ [] := by
 cases l with
 | nil => exact h.elim
 | cons => simp
theorem u8_mk {n : Nat} (h : n < 256) : (UInt8.ofNat n).toNat = n := by
 rw [UInt8.toNat_ofNat']; omega
theorem u8_of (b : UInt8) : UInt8.ofNat b.toNat = b := by simp
theorem bF (n : Nat) : mV (aR n) ∧ dL (aR n) = n := by
 induction n using Nat.strongRecOn with
 | ind n ih =>
  by_cases h : 128 ≤ n
  ·obtain ⟨h1, h2⟩ := ih (n / 128) aC
   rw [iB h]
   have e : (UInt8.ofNat (128 + n % 128)).toNat = 128 + n % 128 := u8_mk aC
   refine ⟨?_, ?_⟩
   ·cases hv : aR (n / 128) with
    | nil => rw [hv] at h1; exact h1.elim
    | cons c l => rw [hv] at h1; exact ⟨by rw [e]; omega, h1⟩
   show (UInt8.ofNat (128 + n % 128)).toNat % 128 + 128 * dL (aR (n / 128)) = n
   rw [h2, e]; omega
  rw [eL h]
  have e : (UInt8.ofNat n).toNat = n := u8_mk aC
  refine ⟨?_, ?_⟩
  ·show (UInt8.ofNat n).toNat < 128
   rw [e]; omega
  show (UInt8.ofNat n).toNat % 128 + 128 * 0 = n
  rw [e]; omega
theorem nE : ∀ {l : List UInt8}, mV l → (aR (dL l)).length ≤ l.length ∧ ((aR (dL l)).length = l.length → aR (dL l) = l)
 | [], h => h.elim
 | [b], h => by
  have hb : b.toNat < 128 := h
  have e : dL [b] = b.toNat := by show b.toNat % 128 + 128 * 0 = _; omega
  rw [e, eL aC, u8_of]
  exact ⟨Nat.le_refl _, fun _ => rfl⟩
 | b :: c :: l, h => by
  obtain ⟨hb, hg⟩ := h
  obtain ⟨h1, h2⟩ := nE hg
  have hb2 := b.toNat_lt
  have e : dL (b :: c :: l) = b.toNat % 128 + 128 * dL (c :: l) := rfl
  by_cases h0 : dL (c :: l) = 0
  ·rw [e, h0, eL aC]
   exact ⟨by simp, fun h => by simp at h⟩
  rw [e, iB aC]
  have e1 : (b.toNat % 128 + 128 * dL (c :: l)) % 128 = b.toNat % 128 := by omega
  have e2 : (b.toNat % 128 + 128 * dL (c :: l)) / 128 = dL (c :: l) := by omega
  have e3 : 128 + b.toNat % 128 = b.toNat := by omega
  rw [e1, e2, e3, u8_of]
  refine ⟨by simp only [length_cons] at *; omega, fun h => ?_⟩
  rw [h2 (by simp only [length_cons] at *; omega)]
theorem iI : ∀ {a b l : List UInt8}, mV a → mV b → a <+: l → b <+: l → a = b
 | [], _, _, h, _, _, _ => h.elim
 | _ :: _, [], _, _, h, _, _ => h.elim
 | x :: a, y :: b, [], _, _, h, _ => by simp at h
 | x :: a, y :: b, z :: l, ha, hb, h1, h2 => by
  obtain ⟨e1, h3⟩ := cons_prefix_cons.1 h1
  obtain ⟨e2, h4⟩ := cons_prefix_cons.1 h2
  have e : y = x := e2.trans e1.symm
  subst e
  cases a with
  | nil =>
   cases b with
   | nil => rfl
   | cons c b => exact absurd (show y.toNat < 128 from ha) (Nat.not_lt.2 hb.1)
  | cons c a =>
   cases b with
   | nil => exact absurd (show y.toNat < 128 from hb) (Nat.not_lt.2 ha.1)
   | cons d b => rw [iI ha.2 hb.2 h3 h4]
noncomputable def dX (l : List UInt8) : Option (Nat × Nat) := @dite _ (∃ n : Nat, n ≤ 1000000000 ∧ aR n <+: l) (Classical.propDecidable _) (fun h => some (Classical.choose h, (aR (Classical.choose h)).length)) (fun _ => none)
theorem kD {l : List UInt8} {n : Nat} (h : n ≤ 1000000000) (hp : aR n <+: l) : dX l = some (n, (aR n).length) := by
 have hx : ∃ n : Nat, n ≤ 1000000000 ∧ aR n <+: l := ⟨n, h, hp⟩
 unfold dX
 rw [dif_pos hx]
 have hc := Classical.choose_spec hx
 have e := iI (bF _).1 (bF n).1 hc.2 hp
 have e2 : Classical.choose hx = n := by rw [← (bF (Classical.choose hx)).2, e, (bF n).2]
 rw [e2]
theorem kE {l : List UInt8} (h : ∀ n : Nat, n ≤ 1000000000 → ¬ aR n <+: l) : dX l = none := by
 unfold dX
 rw [dif_neg fun ⟨n, h1, h2⟩ => h n h1 h2]
theorem gH {l : List UInt8} {n k : Nat} (h : dX l = some (n, k)) : n ≤ 1000000000 ∧ aR n <+: l ∧ k = (aR n).length := by
 unfold dX at h
 split at h
 ·next hx =>
  simp only [Option.some.injEq, Prod.mk.injEq] at h
  have hc := Classical.choose_spec hx
  obtain ⟨h1, h2⟩ := h
  rw [h1] at hc h2
  exact ⟨hc.1, hc.2, h2.symm⟩
 cases h
structure VJ (l : List UInt8) (i : Nat) : Prop where
 le : i ≤ l.length
 up : ∀ j (h : j < l.length), j < i → 128 ≤ l[j].toNat
theorem vdec_app (l : List UInt8) (b : UInt8) : dL (l ++ [b]) = dL l + b.toNat % 128 * 128 ^ l.length := by
 induction l with
 | nil => simp [dL]
 | cons c l ih =>
  show c.toNat % 128 + 128 * dL (l ++ [b]) = c.toNat % 128 + 128 * dL l + _
  rw [ih, length_cons, Nat.pow_succ, Nat.mul_add, ← Nat.add_assoc, Nat.mul_comm 128 (b.toNat % 128 * _), Nat.mul_assoc]
theorem uP : ∀ {l : List UInt8} {b : UInt8}, (∀ c ∈ l, 128 ≤ c.toNat) → b.toNat < 128 → mV (l ++ [b])
 | [], b, _, hb => hb
 | [c], b, h, hb => ⟨h c (by simp), hb⟩
 | c :: d :: l, b, h, hb => ⟨h c (by simp), uP (l := d :: l) (fun x hx => h x (mem_cons_of_mem _ hx)) hb⟩
theorem VJ.mem {l : List UInt8} {i : Nat} (h : VJ l i) : ∀ c ∈ l.take i, 128 ≤ c.toNat := by
 intro c hc
 obtain ⟨j, hj, rfl⟩ := getElem_of_mem hc
 rw [length_take] at hj
 rw [getElem_take]
 exact h.up j aC aC
theorem VJ.good {l : List UInt8} {i : Nat} {b : UInt8} (h : VJ l i) (hb : l[i]? = some b) (h2 : b.toNat < 128) : mV (l.take (i + 1)) := by
 obtain ⟨hi, rfl⟩ := gsi_.1 hb
 rw [take_succ_eq_append_getElem hi]
 exact uP h.mem h2
theorem VJ.next {l : List UInt8} {i : Nat} {b : UInt8} (h : VJ l i) (hb : l[i]? = some b) (h2 : ¬ b.toNat < 128) : VJ l (i + 1) := by
 obtain ⟨hi, rfl⟩ := gsi_.1 hb
 refine ⟨hi, fun j hj hlt => ?_⟩
 rcases Nat.lt_succ_iff_lt_or_eq.1 hlt with h3 | rfl
 ·exact h.up j hj h3
 omega
theorem VJ.found {l : List UInt8} {i : Nat} {b : UInt8} (h : VJ l i) (hb : l[i]? = some b) (h2 : b.toNat < 128) (hn : dL (l.take (i + 1)) ≤ 1000000000) (hlen : (aR (dL (l.take (i + 1)))).length = i + 1) : dX l = some (dL (l.take (i + 1)), i + 1) := by
 have hi := (gsi_.1 hb).1
 have hg := h.good hb h2
 have hl : (l.take (i + 1)).length = i + 1 := by rw [length_take]; omega
 have e := (nE hg).2 (by rw [hl]; exact hlen)
 have := kD hn (l := l) (by rw [e]; exact take_prefix _ _)
 rw [this, hlen]
theorem VJ.not {l : List UInt8} {i : Nat} {b : UInt8} (h : VJ l i) (hb : l[i]? = some b) (h2 : b.toNat < 128) (hn : ¬ (dL (l.take (i + 1)) ≤ 1000000000 ∧ (aR (dL (l.take (i + 1)))).length = i + 1)) : dX l = none := by
 refine kE fun n h1 hp => hn ?_
 have hi := (gsi_.1 hb).1
 have hg := h.good hb h2
 have hl : (l.take (i + 1)).length = i + 1 := by rw [length_take]; omega
 have e := iI hg (bF n).1 (take_prefix _ _) hp
 have e2 := (bF n).2
 rw [← e] at e2
 rw [e2]
 exact ⟨h1, by rw [← e, hl]⟩
theorem VJ.five {l : List UInt8} (h : VJ l 5) : dX l = none := by
 refine kE fun n h1 hp => ?_
 have h3 := mW 4 n aC
 have hg := (bF n).1
 have hle := hp.length_le
 obtain ⟨t, ht⟩ := hp
 have key : ∀ (g : List UInt8) (l : List UInt8) (t : List UInt8), mV g → g ++ t = l → ∃ j, j + 1 = g.length ∧ ∃ b, l[j]? = some b ∧ b.toNat < 128 := by
  intro g
  induction g with
  | nil => intro l t h _; exact h.elim
  | cons x g ih =>
   intro l t hg he
   cases g with
   | nil => exact ⟨0, rfl, x, by rw [← he]; rfl, hg⟩
   | cons y g =>
    obtain ⟨j, hj, b, hb, hlt⟩ := ih (y :: g ++ t) t hg.2 rfl
    exact ⟨j + 1, by rw [hj]; rfl, b, by rw [← he]; exact hb, hlt⟩
 obtain ⟨j, hj, b, hb, hlt⟩ := key _ l t hg ht
 obtain ⟨hjl, rfl⟩ := gsi_.1 hb
 have := h.up j hjl aC
 omega
theorem VJ.ends {l : List UInt8} {i : Nat} (h : VJ l i) (hi : l.length ≤ i) : dX l = none := by
 refine kE fun n h1 hp => ?_
 have hg := (bF n).1
 obtain ⟨t, ht⟩ := hp
 have key : ∀ (g : List UInt8), mV g → ∃ b ∈ g, b.toNat < 128 := by
  intro g
  induction g with
  | nil => intro h; exact h.elim
  | cons x g ih =>
   intro hg
   cases g with
   | nil => exact ⟨x, by simp, hg⟩
   | cons y g =>
    obtain ⟨b, hb, hlt⟩ := ih hg.2
    exact ⟨b, mem_cons_of_mem _ hb, hlt⟩
 obtain ⟨b, hb, hlt⟩ := key _ hg
 have hb2 : b ∈ l := by rw [← ht]; exact mem_append_left _ hb
 obtain ⟨j, hj, rfl⟩ := getElem_of_mem hb2
 have := h.up j hj aC
 omega
def gI (ts : List Task) (s : Int) (k : Nat) : List Int := (List.range k).filterMap (fun i : Nat => if (ts[i]?).map Task.state = some s then some (i : Int) else none)
def bJ (ts : List Task) (s : Int) : List Int := gI ts s ts.length
theorem tasksTo_len (ts : List Task) (s : Int) (k : Nat) : (gI ts s k).length ≤ k := by
 unfold gI
 have := length_filterMap_le (fun i : Nat => if (ts[i]?).map Task.state = some s then some (i : Int) else none) (List.range k)
 rwa [length_range] at this
theorem uU {ts : List Task} {s : Int} {k : Nat} (h : k < ts.length) (hs : ts[k].state = s) : gI ts s (k + 1) = gI ts s k ++ [(k : Int)] := by
 unfold gI
 rw [range_succ, filterMap_append]
 simp [h, hs]
theorem uV {ts : List Task} {s : Int} {k : Nat} (h : k < ts.length) (hs : ¬ ts[k].state = s) : gI ts s (k + 1) = gI ts s k := by
 unfold gI
 rw [range_succ, filterMap_append]
 simp [h, hs]
theorem uB {r : Run} (hc : Shape.C w cs r fp) (s : Int) (hl : r.tasks.length ≤ 1048576) :
  Calls prog 30 #[.agg cs.toArray, I s] w (rS_ (bJ r.tasks s) w) := by
 have hk1 := hc
 obtain ⟨v1_0, v1_1, g1_0, g1_1, rfl, hok1, h1_0, h1_1, rfl⟩ := hk1
 refine bI func30 rfl ntmps30 aV (wp_seq (aA (sg (aI (cs := [I r.id, I r.plan.prio, I r.plan.most, I r.plan.wait, I r.plan.tasks, v1_0, I r.state, v1_1]) rfl (St.start w) ?_)))); intro b2 W3 hb4 st5
 refine sg (aF (v := .slice none 0 0) rfl (aB (wp_seq (aA (sg (aF (v := .slice none 0 0) rfl (aB (wp_seq (wp_seq (aA (rn st5 4 Ag.nil.put.put.put.put.put [] [(9, v1_1), (10, I (r.tasks.length : Int)), (11, I 0)] [qb 0 rfl 7, ql h1_1] aD fun f12 h12_ => (aB (wp_block ?_)))))))))))))
 have st14 := st5.row_nil (α := Int) 3
 refine aP (fun (m : Nat) (f : Nat → Value) (W : World) => ∃ (k : Nat) (v13 : Value), k ≤ r.tasks.length ∧ m = r.tasks.length - k ∧ Ag [(1, I s), (5, v13), (9, v1_1), (10, I (r.tasks.length : Int)), (11, I (k : Int))] f ∧ St w W ([Res.row (α := Int) 3 v13 (gI r.tasks s k) [], Res.bx b2 [I r.id, I r.plan.prio, I r.plan.most, I r.plan.wait, I r.plan.tasks, v1_0, I r.state, v1_1] 55])) (r.tasks.length - 0) ?_ ?_
 ·exact ⟨0, (.slice none 0 0), (by first | omega | simp), rfl, (h12_.to aD), st14⟩
 intro m16 f17 W18 hJ19
 obtain ⟨k, v13, hcd21_0, rfl, hA21, st20⟩ := hJ19
 have hlen := tasksTo_len r.tasks s k
 refine wp_seq (aA (sg (bL (hA21.at 11) (hA21.at 10) (aB (wp_seq (aJ rfl (fun h24p => ?_) (fun h24p => ?_)))))))
 ·refine wp_skip (wp_seq (wp_block (wp_seq (aA ?_))))
  have hif4d94 : k < r.tasks.length := aC
  obtain ⟨b26, o26, cs26, f26, hp26, hr26, hc26, hm26⟩ := idx h1_1 (i := k) hif4d94
  refine rn st20 3 hA21.put [] [(13, I (k : Int)), (15, .agg cs26.toArray)] [qx hp26, qrw hr26 (Shape.len hc26)] aD fun f27 h27_ => (sg (bO qX st20 ?_)); intro b28 W29 hb30 st31
  refine sg (aF (h27_.at 13) (sgn (bC (cs := cs26) rJ hc26 rfl (h27_.at 15) st31 rfl ?_))); intro W35 st36
  refine aB (wp_seq (aA ?_))
  have hk38 := hc26
  obtain ⟨he38, rfl, hok38⟩ := hk38
  have he38 : _ = [I (r.tasks[k]'hif4d94).state, I (r.tasks[k]'hif4d94).need, I (r.tasks[k]'hif4d94).try_, I (r.tasks[k]'hif4d94).until_] := he38
  subst he38
  refine rn st36 4 h27_.put.put [] [(19, .bool (decide ((r.tasks[k]'hif4d94).state = s)))] [qb 0 rfl 0, .o] aD fun f39 h39_ => (aB (aJ (h39_.at 19) (fun h40p => ?_) (fun h40p => ?_)))
  ·refine aA (sg (aG (h39_.at 5) (sg (aG (h39_.at 6) (sg (aW (cs := [I (k : Int)]) (e := 3) (fQ (v := I (k : Int)) rfl kM) (bT eZ _ _ rfl rfl aV) st36 ?_)))))); intro b43 W44 hb45 st46
   refine sg (cU (ys := [(k : Int)]) eZ rfl rfl rfl st46.f2 (Elems.int1 (by simp only [I64]; omega)) (by unfold maxLen; omega) aC ?_); intro v49 W50 st51
   refine sg (aF (v := v49) rfl (aB (aA (sg (bN (h39_.at 11) rfl eC (sg (aG (v := I ((k : Int) + 1)) rfl (aB ?_))))))))
   exact ⟨_, r.tasks.length - (k + 1), aC, rfl, k + 1, v49, aC, rfl, (h39_.put.put.put.put.put.put.put.to aD), (by rw [uU aC h40p]; exact st51.f2.f1.d2)⟩
  refine wp_skip (aA (sg (bN (h39_.at 11) rfl eC (sg (aG (v := I ((k : Int) + 1)) rfl (aB ?_))))))
  exact ⟨_, r.tasks.length - (k + 1), aC, rfl, k + 1, v13, aC, rfl, (h39_.put.put.to aD), (by rw [uV aC h40p]; exact st36.f2.f2.d2)⟩
 refine wp_exit (wp_seq (aA (sg (aG (hA21.at 5) (sg (aF (v := v13) rfl (aB (wr (aL results30 rfl ?_)))))))))
 obtain ⟨fpz, stz⟩ := st20.shut
 obtain rfl : k = r.tasks.length := by omega
 exact ⟨_, fpz, rfl, stz.only 0 rfl⟩

theorem inB_t {n a b : Int} (h : a ≤ n ∧ n ≤ b) : inB n a b = true := by simp [inB, h]
theorem aB2 {n a b : Int} (h : ¬ (a ≤ n ∧ n ≤ b)) : inB n a b = false := by simp [inB]; omega
theorem within_any (n a b : Int) (w : World) : Calls prog 92 #[.int .i64 n, .int .i64 a, .int .i64 b] w fun e w' => e = .returned (.bool (inB n a b)) ∧ w = w' := by
 by_cases h : a ≤ n
 ·by_cases h2 : n ≤ b
  ·go_enter func92, ntmps92
   go_wp2
   go_ret
   exact ⟨by rw [inB_t ⟨h, h2⟩]; simp <;> omega, rfl⟩
  go_enter func92, ntmps92
  go_wp2
  go_ret
  exact ⟨by rw [aB2 aC]; simp <;> omega, rfl⟩
 go_enter func92, ntmps92
 go_wp2
 go_ret
 exact ⟨by rw [aB2 aC]; simp <;> omega, rfl⟩
theorem l01In_any (n a b : Int) (w : World) : Calls prog 138 #[.int .i64 n, .int .i64 a, .int .i64 b] w fun e w' => e = .returned (.bool (inB n a b)) ∧ w = w' := by
 by_cases h : a ≤ n
 ·by_cases h2 : n ≤ b
  ·go_enter func138, ntmps138
   go_wp2
   go_ret
   exact ⟨by rw [inB_t ⟨h, h2⟩]; simp <;> omega, rfl⟩
  go_enter func138, ntmps138
  go_wp2
  go_ret
  exact ⟨by rw [aB2 aC]; simp <;> omega, rfl⟩
 go_enter func138, ntmps138
 go_wp2
 go_ret
 exact ⟨by rw [aB2 aC]; simp <;> omega, rfl⟩
theorem cV (n a b : Int) : Calls prog 92 #[I n, I a, I b] w fun e w' => e = .returned (.bool (inB n a b)) ∧ St w w' [] := (within_any n a b w).mono fun e w' ⟨h1, h2⟩ => ⟨h1, by subst h2; exact St.start w⟩
theorem bW (n a b : Int) : Calls prog 138 #[I n, I a, I b] w fun e w' => e = .returned (.bool (inB n a b)) ∧ St w w' [] := (l01In_any n a b w).mono fun e w' ⟨h1, h2⟩ => ⟨h1, by subst h2; exact St.start w⟩
theorem tZ {α : Type} {p : α → Bool} {xs : List α} {k : Nat} (hk : k < xs.length) (h : (xs.take k).any p = false) (hp : p xs[k] = false) : (xs.take (k + 1)).any p = false := by
 rw [take_succ_eq_append_getElem hk, any_append, h]; simp [hp]
theorem nX {α : Type} (f : α → Nat) (xs : List α) (k : Nat) (h : k < xs.length) : ((xs.take (k + 1)).map f).sum = ((xs.take k).map f).sum + f xs[k] := rV f xs k h
theorem aE6 {α : Type} {f g : α → Nat} (h : ∀ x, f x ≤ g x) : ∀ xs : List α, (xs.map f).sum ≤ (xs.map g).sum
 | [] => by simp
 | x :: xs => by simp only [map_cons, sum_cons]; have := h x; have := aE6 h xs; omega
theorem rU {y : Yard} {k : Nat} (h : k < y.runs.length) : y.runs[k].wt + y.runs.length ≤ y.wt := by
 have := vZ (fun y : Run => y.wt) y.runs k h
 unfold Yard.wt wtL
 omega
theorem VarTextI (id : Int) :
  Calls prog 202 #[I id] w fun e w' => e = .returned (.string (dG id)) ∧ St w w' [] := by
 refine dS func202 rfl ntmps202 aV (wp_seq (aA (sg (aF (v := .string (⟨#[]⟩ : ByteArray)) rfl (aB (wp_seq (wp_seq (aA (rc (St.start w) 3 Ag.nil.put.put [] [(6, .bool (!(inB id 0 1000000000)))] [qc func92 rfl (fun W s b => cV W id 0 1000000000), .o] aD fun f4 W5 h4_ st6 hb7 => (aB (bU (h4_.at 6) (fun h8 => ?_) (fun h8 => ?_))))))))))))
 ·have h8p := dR (aN h8)
  refine wp_seq (aA (sg (aF (v := .string (⟨#[]⟩ : ByteArray)) rfl (aB (wr (aL results202 rfl ?_))))))
  exact ⟨(congrArg (fun z => Ending.returned (.string z)) (by unfold dG; rw [if_neg (by rw [(aN h8)]; decide)])), st6.bare⟩
 have h8p := inB_iff'.1 (bS h8)
 refine wp_skip (wp_seq (aA (sg (aF (v := .slice none 0 0) rfl (aB (wp_seq (wp_block ?_)))))))
 have st14 := st6.row_nil (α := UInt8) 5
 refine aP (fun (m : Nat) (f : Nat → Value) (W : World) => ∃ (n : Int) (xs : List UInt8) (v13 : Value), 0 ≤ n ∧ n ≤ 1000000000 ∧ xs ++ aR n.toNat = aR id.toNat ∧ (xs.length : Int) + n ≤ id ∧ m = n.toNat ∧ Ag [(0, I n), (3, v13)] f ∧ St w W ([Res.row (α := UInt8) 5 v13 xs []])) (id.toNat) ?_ ?_
 ·exact ⟨id, [], (.slice none 0 0), aC, aC, rfl, (by simp), rfl, (h4_.put.to aD), st14⟩
 intro m16 f17 W18 hJ19
 obtain ⟨n, xs, v13, hn0, hn1, hvb, hxl, rfl, hA21, st20⟩ := hJ19
 refine wp_seq (wp_seq (aA (sg (aG (hA21.at 0) (sg (zZ rfl rfl (aB (aJ rfl (fun h24p => ?_) (fun h24p => ?_)))))))))
 ·refine wp_skip (wp_block (wp_seq (aA (rn st20 4 hA21.put.put [] [(9, v13), (12, I ((n % 128) + 128))] [qq n 128, qad (n % 128) 128] aD fun f26 h26_ => (sg (lL aD underlying5 (h26_.at 12) aC (sg (aW (cs := [.int .u8 ((n % 128) + 128)]) (e := 5) (fQ (v := .int .u8 ((n % 128) + 128)) rfl kM) (bT eV _ _ rfl rfl aV) st20 ?_)))))))); intro b27 W28 hb29 st30
  refine sg (cU (ys := [UInt8.ofNat ((n % 128) + 128).toNat]) eV (h26_.at 9) rfl rfl st30.f1 (Elems.byte1 aC) (by unfold maxLen; omega) aC ?_); intro v33 W34 st35
  refine sg (aF (v := v33) rfl (aB (aA (rn st35 3 h26_.put.put.put.put [0] [(0, I (n / 128))] [qq n 128] aD fun f39 h39_ => (aB ?_)))))
  exact ⟨_, (n / 128).toNat, aC, rfl, n / 128, xs ++ [UInt8.ofNat (n % 128 + 128).toNat], v33, aC, aC, (by rw [← hvb, iB (n := n.toNat) aC, append_assoc]; have e1 : (n % 128 + 128).toNat = 128 + n.toNat % 128 := aC; have e2 : (n / 128).toNat = n.toNat / 128 := aC; rw [e1, e2]; rfl), (by simp only [length_append, length_cons, length_nil]; omega), rfl, (h39_.to aD), st35⟩
 refine wp_exit (wp_seq (aA (sg (aG (hA21.at 3) (sg (aG (hA21.at 0) (sg (lL aD underlying5 rfl aC (sg (aW (cs := [.int .u8 n]) (e := 5) (fQ (v := .int .u8 n) rfl kM) (bT eV _ _ rfl rfl aV) st20 ?_)))))))))); intro b42 W43 hb44 st45
 refine sg (cU (ys := [UInt8.ofNat (n).toNat]) eV rfl rfl rfl st45.f1 (Elems.byte1 aC) (by unfold maxLen; omega) aC ?_); intro v48 W49 st50
 refine sg (mF underlying22 underlying5 underlying9 rfl (gB (st50.get 0 rfl)) (Below.refl _ _) (sg (aF (v := .string (⟨(xs ++ [UInt8.ofNat (n).toNat]).toArray⟩ : ByteArray)) rfl (aB (wr (aL results202 rfl ?_))))))
 exact ⟨(congrArg (fun z => Ending.returned (.string z)) (by unfold dG; rw [if_pos (bS h8), ← hvb, eL aC])), st50.bare⟩
theorem tq2_ {P : Prop} (h : P := by
 have hsz : t.size = t.data.toList.length := rfl
 refine dS zq1 rfl zq2 aV (wp_seq (aA (sg (aE (aB (wp_seq (aA (sg (aE (aB (wp_seq (wp_seq (aA ?_)))))))))))))
 refine sg (aE (aB (wp_block (aP (fun (m : Nat) (f : Nat → Value) (W : World) => ∃ (i : Nat), i ≤ t.data.toList.length ∧ m = t.data.toList.length - i ∧ Ag [(0, .string t), (3, I (iR (t.data.toList.take i))), (4, I (i : Int))] f ∧ St w W ([])) (t.data.toList.length - 0) ?_ ?_))))
 ·exact ⟨0, Nat.zero_le _, rfl, (Ag.nil.put.put.put.put.to aD), (St.start w)⟩
 intro m7 f8 W9 hJ10
 obtain ⟨i, hcd12_0, rfl, hA12, st11⟩ := hJ10
 have hsr := xE (t.data.toList.take i)
 have hsz : t.size = t.data.toList.length := rfl
 refine wp_seq (wp_seq (aA (sg (aG (hA12.at 4) (sg (aG (hA12.at 0) (sg (nY underlying9 rfl (sg (bL rfl rfl (aB (aJ rfl (fun h17p => ?_) (fun h17p => ?_)))))))))))))
 ·refine wp_skip (wp_seq (wp_block (wp_seq (aA (rn st11 3 hA12.put.put.put.put [] [(13, I (iR (t.data.toList.take i))), (14, .string t), (15, I (i : Int))] [] aD fun f19 h19_ => ?_)))))
  have hi75860 : i < t.data.toList.length := aC
  refine sg (stp_sidx (i := i) underlying9 (h19_.at 14) (h19_.at 15) hi75860 ?_)
  have hbr := yD (t.data.toList[i])
  refine sg (stp_b2i underlying5 underlying3 rfl aC (sg (sC (h19_.at 13) rfl aC aC (sg (aF (v := I (gV (iR (t.data.toList.take i)) ((t.data.toList[i]'hi75860).toNat : Int))) rfl (aB (wp_seq (aA (sg (aE (aB (wp_block (aP (fun (m : Nat) (f : Nat → Value) (W : World) => ∃ (j : Nat), j ≤ 8 ∧ m = 8 - j ∧ Ag [(0, .string t), (3, I (kX j (gV (iR (t.data.toList.take i)) ((t.data.toList[i]'hi75860).toNat : Int)))), (4, I (i : Int)), (5, I (j : Int))] f ∧ St w W ([])) (8 - 0) ?_ ?_)))))))))))))
  ·exact ⟨0, Nat.zero_le _, rfl, (h19_.put.put.put.put.put.to aD), st11⟩
  intro m24 f25 W26 hJ27
  obtain ⟨j, hcd29_0, rfl, hA29, st28⟩ := hJ27
  have hcr := tR (nV hsr (by omega : 0 ≤ ((t.data.toList[i]).toNat : Int) ∧ ((t.data.toList[i]).toNat : Int) < 4294967296)) j
  refine wp_seq (wp_seq (aA (sg (aG (hA29.at 5) (sg (bL rfl rfl (aB (aJ rfl (fun h32p => ?_) (fun h32p => ?_)))))))))
  ·refine wp_skip (wp_seq (wp_block (wp_seq (aA (rn st28 4 hA29.put.put [] [(6, .bool (decide (((kX j (gV (iR (t.data.toList.take i)) ((t.data.toList[i]'hi75860).toNat : Int))) % 2) = 1)))] [qq (kX j (gV (iR (t.data.toList.take i)) ((t.data.toList[i]'hi75860).toNat : Int))) 2, .o] aD fun f34 h34_ => (aB (wp_seq (aA (rn st28 3 h34_ [3] [(3, I ((kX j (gV (iR (t.data.toList.take i)) ((t.data.toList[i]'hi75860).toNat : Int))) / 2))] [qq (kX j (gV (iR (t.data.toList.take i)) ((t.data.toList[i]'hi75860).toNat : Int))) 2] aD fun f36 h36_ => (aB (wp_seq ?_)))))))))))
   refine aA (sg (aG (h36_.at 6) (aB (aJ rfl (fun h39p => ?_) (fun h39p => ?_)))))
   ·refine aA (sg (aG (h36_.at 3) (sg (sC rfl rfl aC aC (sg (aF (v := I (gV ((kX j (gV (iR (t.data.toList.take i)) ((t.data.toList[i]'hi75860).toNat : Int))) / 2) 3988292384)) rfl (aB (aA (rn st28 3 h36_.put.put.put.put [5] [(5, I ((j : Int) + 1))] [qad (j : Int) 1] aD fun f45 h45_ => (aB ?_))))))))))
    exact ⟨_, 8 - (j + 1), aC, rfl, j + 1, aC, rfl, (Ag.cons (h45_.at 0) (Ag.cons (Eq.trans (show _ = I (gV ((kX j (gV (iR (t.data.toList.take i)) ((t.data.toList[i]'hi75860).toNat : Int))) / 2) 3988292384) from (h45_.at 3)) (show I (gV ((kX j (gV (iR (t.data.toList.take i)) ((t.data.toList[i]'hi75860).toNat : Int))) / 2) 3988292384) = _ from congrArg I (by show _ = lZ _; unfold lZ; rw [if_pos aC]))) (Ag.cons (h45_.at 4) (Ag.cons (h45_.at 5) Ag.nil)))), st28⟩
   refine wp_skip (aA (rn st28 3 h36_.put [5] [(5, I ((j : Int) + 1))] [qad (j : Int) 1] aD fun f47 h47_ => (aB ?_)))
   exact ⟨_, 8 - (j + 1), aC, rfl, j + 1, aC, rfl, (Ag.cons (h47_.at 0) (Ag.cons (Eq.trans (show _ = I ((kX j (gV (iR (t.data.toList.take i)) ((t.data.toList[i]'hi75860).toNat : Int))) / 2) from (h47_.at 3)) (show I ((kX j (gV (iR (t.data.toList.take i)) ((t.data.toList[i]'hi75860).toNat : Int))) / 2) = _ from congrArg I (by show _ = lZ _; unfold lZ; rw [if_neg aC]))) (Ag.cons (h47_.at 4) (Ag.cons (h47_.at 5) Ag.nil)))), st28⟩
  refine wp_exit (aA (rn st28 3 hA29.put.put [4] [(4, I ((i : Int) + 1))] [qad (i : Int) 1] aD fun f49 h49_ => (aB ?_)))
  exact ⟨_, t.data.toList.length - (i + 1), aC, rfl, i + 1, aC, rfl, (Ag.cons (h49_.at 0) (Ag.cons (Eq.trans (show _ = I (kX j (gV (iR (t.data.toList.take i)) ((t.data.toList[i]'hi75860).toNat : Int))) from (h49_.at 3)) (show I (kX j (gV (iR (t.data.toList.take i)) ((t.data.toList[i]'hi75860).toNat : Int))) = _ from (congrArg I (by rw [sumL_to aC]; have hj8 : j = 8 := aC; rw [hj8])))) (Ag.cons (h49_.at 4) Ag.nil))), st28⟩
 refine wp_exit (wp_seq (aA (sg (aG (hA12.at 3) (sg (sC rfl rfl aC aC (sg (aF (v := I (gV (iR (t.data.toList.take i)) 4294967295)) rfl (aB (wr (aL zq3 rfl ?_)))))))))))
 obtain rfl : i = t.data.toList.length := by omega
 exact ⟨(fI (by unfold fF; rw [take_length])), st11.bare⟩) : P := h
theorem SumOfI (t : ByteArray) (ht : t.size ≤ 1048576) :
  Calls prog 197 #[.string t] w fun e w' => e = .returned (I (fF t)) ∧ St w w' [] := by have zq1 := @func197; have zq2 := @ntmps197; have zq3 := @results197; exact tq2_
theorem VarTextS (id : Int) :
  Calls prog 214 #[I id] w fun e w' => e = .returned (.string (dG id)) ∧ St w w' [] := by
 refine dS func214 rfl ntmps214 aV (wp_seq (aA (sg (aF (v := .string (⟨#[]⟩ : ByteArray)) rfl (aB (wp_seq (wp_seq (aA (rc (St.start w) 3 Ag.nil.put.put [] [(6, .bool (!(inB id 0 1000000000)))] [qc func138 rfl (fun W s b => bW W id 0 1000000000), .o] aD fun f4 W5 h4_ st6 hb7 => (aB (bU (h4_.at 6) (fun h8 => ?_) (fun h8 => ?_))))))))))))
 ·have h8p := dR (aN h8)
  refine wp_seq (aA (sg (aF (v := .string (⟨#[]⟩ : ByteArray)) rfl (aB (wr (aL results214 rfl ?_))))))
  exact ⟨(congrArg (fun z => Ending.returned (.string z)) (by unfold dG; rw [if_neg (by rw [(aN h8)]; decide)])), st6.bare⟩
 have h8p := inB_iff'.1 (bS h8)
 refine wp_skip (wp_seq (aA (sg (aW (cs := []) (e := 5) kM (eS eV _) st6 ?_)))); intro b11 W12 hb13 st14
 have st14 := st14.row_empty (α := UInt8)
 refine sg (aF (v := (.slice (some ⟨b11, 0, none⟩) 0 0)) rfl (aB (wp_seq (wp_block (aP (fun (m : Nat) (f : Nat → Value) (W : World) => ∃ (n : Int) (xs : List UInt8) (v18 : Value), 0 ≤ n ∧ n ≤ 1000000000 ∧ xs ++ aR n.toNat = aR id.toNat ∧ (xs.length : Int) + n ≤ id ∧ m = n.toNat ∧ Ag [(0, I n), (3, v18)] f ∧ St w W ([Res.row (α := UInt8) 5 v18 xs []])) (id.toNat) ?_ ?_)))))
 ·exact ⟨id, [], (.slice (some ⟨b11, 0, none⟩) 0 0), aC, aC, rfl, (by simp), rfl, (h4_.put.put.to aD), st14⟩
 intro m19 f20 W21 hJ22
 obtain ⟨n, xs, v18, hn0, hn1, hvb, hxl, rfl, hA24, st23⟩ := hJ22
 refine wp_seq (wp_seq (aA (sg (aG (hA24.at 0) (sg (wB rfl rfl (aB (aJ rfl (fun h27p => ?_) (fun h27p => ?_)))))))))
 ·refine wp_skip (wp_block (wp_seq (aA (rn st23 4 hA24.put.put [] [(10, v18), (13, I (128 + (n % 128)))] [qq n 128, qad 128 (n % 128)] aD fun f29 h29_ => (sg (lL aD underlying5 (h29_.at 13) aC (sg (aW (cs := [.int .u8 (128 + (n % 128))]) (e := 5) (fQ (v := .int .u8 (128 + (n % 128))) rfl kM) (bT eV _ _ rfl rfl aV) st23 ?_)))))))); intro b30 W31 hb32 st33
  refine sg (cU (ys := [UInt8.ofNat (128 + (n % 128)).toNat]) eV (h29_.at 10) rfl rfl st33.f1 (Elems.byte1 aC) (by unfold maxLen; omega) aC ?_); intro v36 W37 st38
  refine sg (aF (v := v36) rfl (aB (aA (rn st38 3 h29_.put.put.put.put [0] [(0, I (n / 128))] [qq n 128] aD fun f42 h42_ => (aB ?_)))))
  exact ⟨_, (n / 128).toNat, aC, rfl, n / 128, xs ++ [UInt8.ofNat (128 + n % 128).toNat], v36, aC, aC, (by rw [← hvb, iB (n := n.toNat) aC, append_assoc]; have e1 : (128 + n % 128).toNat = 128 + n.toNat % 128 := aC; have e2 : (n / 128).toNat = n.toNat / 128 := aC; rw [e1, e2]; rfl), (by simp only [length_append, length_cons, length_nil]; omega), rfl, (h42_.to aD), st38⟩
 refine wp_exit (wp_seq (aA (sg (aG (hA24.at 3) (sg (aG (hA24.at 0) (sg (lL aD underlying5 rfl aC (sg (aW (cs := [.int .u8 n]) (e := 5) (fQ (v := .int .u8 n) rfl kM) (bT eV _ _ rfl rfl aV) st23 ?_)))))))))); intro b45 W46 hb47 st48
 refine sg (cU (ys := [UInt8.ofNat (n).toNat]) eV rfl rfl rfl st48.f1 (Elems.byte1 aC) (by unfold maxLen; omega) aC ?_); intro v51 W52 st53
 refine sg (mF underlying22 underlying5 underlying9 rfl (gB (st53.get 0 rfl)) (Below.refl _ _) (sg (aF (v := .string (⟨(xs ++ [UInt8.ofNat (n).toNat]).toArray⟩ : ByteArray)) rfl (aB (wr (aL results214 rfl ?_))))))
 exact ⟨(congrArg (fun z => Ending.returned (.string z)) (by unfold dG; rw [if_pos (bS h8), ← hvb, eL aC])), st53.bare⟩
theorem SumOfS (t : ByteArray) (ht : t.size ≤ 1048576) :
  Calls prog 216 #[.string t] w fun e w' => e = .returned (I (fF t)) ∧ St w w' [] := by have zq1 := @func216; have zq2 := @ntmps216; have zq3 := @results216; exact tq2_

/-! ### Traces: what is to be equal, for the kernel to see in one go -/
inductive Tr : Type 2
 | ok
 | no
 | e0 {α : Type} (a b : α) (k : Tr)
 | e1 {α : Type 1} (a b : α) (k : Tr)
 | fn {α : Type} (f : α → Tr)
 | f1 {α : Type 1} (f : α → Tr)
 | fp (p : Prop) (f : p → Tr)
 | an (a b : Tr)
def Tr.holds : Tr → Prop
 | .ok => True
 | .no => False
 | .e0 a b k => a = b ∧ k.holds
 | .e1 a b k => a = b ∧ k.holds
 | .fn f => ∀ x, (f x).holds
 | .f1 f => ∀ x, (f x).holds
 | .fp _ f => ∀ h, (f h).holds
 | .an a b => a.holds ∧ b.holds
inductive T2 : Type 2
 | ok
 | no (b : Bool)
 | e0 {α : Type} (a : α) (k : T2)
 | e1 {α : Type 1} (a : α) (k : T2)
 | fn {α : Type} (f : α → T2)
 | f1 {α : Type 1} (f : α → T2)
 | fp (p : Prop) (f : p → T2)
 | an (a b : T2)
def Tr.side (c : Bool) : Tr → T2
 | .ok => .ok
 | .no => .no c
 | .e0 a b k => .e0 (cond c a b) (k.side c)
 | .e1 a b k => .e1 (cond c a b) (k.side c)
 | .fn f => .fn fun x => (f x).side c
 | .f1 f => .f1 fun x => (f x).side c
 | .fp p f => .fp p fun h => (f h).side c
 | .an a b => .an (a.side c) (b.side c)
theorem Tr.of_side : ∀ {t : Tr}, t.side true = t.side false → t.holds
 | .ok, _ => trivial
 | .no, h => by simp [Tr.side] at h
 | .e0 a b k, h => by
  simp only [Tr.side, cond_true, cond_false, T2.e0.injEq, heq_eq_eq, true_and] at h
  exact ⟨h.1, Tr.of_side h.2⟩
 | .e1 a b k, h => by
  simp only [Tr.side, cond_true, cond_false, T2.e1.injEq, heq_eq_eq, true_and] at h
  exact ⟨h.1, Tr.of_side h.2⟩
 | .fn f, h => by
  simp only [Tr.side, T2.fn.injEq, heq_eq_eq, true_and] at h
  exact fun x => Tr.of_side (congrFun h x)
 | .f1 f, h => by
  simp only [Tr.side, T2.f1.injEq, heq_eq_eq, true_and] at h
  exact fun x => Tr.of_side (congrFun h x)
 | .fp p f, h => by
  simp only [Tr.side, T2.fp.injEq, heq_eq_eq, true_and] at h
  exact fun x => Tr.of_side (congrFun h x)
 | .an a b, h => by
  simp only [Tr.side, T2.an.injEq] at h
  exact ⟨Tr.of_side h.1, Tr.of_side h.2⟩

/-! ### Values -/
structure Hd where
 ao : Option Addr
 n : Nat
 cap : Nat
def Hd.val (h : Hd) : Value := .slice h.ao h.n h.cap
inductive Sc
 | vl (x : Value)
 | bo (e : Bool)
 | pt (j b k o : Nat)
 | rf (j : Nat) (h : Hd)
 | lt (j b n : Nat)
def Sc.val : Sc → Value
 | .vl x => x
 | .bo e => .bool e
 | .pt _ b k o => .pointer (some ⟨b, k + o, none⟩)
 | .rf _ h => h.val
 | .lt _ b n => .slice (some ⟨b, 0, none⟩) n n
def sc : Value → Sc
 | .bool e => .bo e
 | x => .vl x
theorem jJ (x : Value) : (sc x).val = x := by
 unfold sc; split <;> rfl
theorem Sl.hd {α : Type} [Shape α] {w : World} {v : Value} {xs : List α} {fp : List Nat} (h : Sl w v xs fp) : ∃ hd : Hd, v = hd.val ∧ hd.n = xs.length := by
 obtain ⟨ao, cap, rfl, _⟩ := h
 exact ⟨⟨ao, xs.length, cap⟩, rfl, rfl⟩
inductive TV
 | ce (x : Sc)
 | ag (l : List Sc)
def TV.val : TV → Value
 | .ce x => x.val
 | .ag l => .agg (l.map Sc.val).toArray
inductive SV
 | on (t : TV)
 | tu (l : List TV)
def SV.val : SV → Value
 | .on t => t.val
 | .tu l => .tuple (l.map TV.val).toArray

/-! ### How a value's cells stand: pU -/
inductive Lf : Type 1
 | v (x : Value)
 | s (β : Type) (i : Shape β) (ys : List β)
def eE (w : World) : List Value → List Lf → List Nat → Prop
 | [], [], fp => fp = []
 | c :: cs, .v u :: ls, fp => c = u ∧ eE w cs ls fp
 | c :: cs, .s β _ ys :: ls, fp => ∃ f1 f2, Sl w c ys f1 ∧ eE w cs ls f2 ∧ fp = f1 ++ f2
 | _, _, _ => False
class Dsh (α : Type) extends Shape α where
 lv : α → List Lf
 good : α → Prop
 out : ∀ {w cs x fp}, C w cs x fp → good x ∧ eE w cs (lv x) fp
 inn : ∀ {w cs x fp}, good x → eE w cs (lv x) fp → C w cs x fp

/-! ### What is borrowed; what is owned -/
structure Gr where
 p : World → Prop
 up : ∀ {w w' : World}, Below w.heap.size w w' → p w → p w'
def Gin (G : Option Gr) (w : World) : Prop :=
 match G with
 | none => True
 | some g => g.p w
theorem Gin.up {G : Option Gr} {w w' : World} (h : Gin G w) (hb : Below w.heap.size w w') : Gin G w' := by
 cases G with
 | none => trivial
 | some g => exact g.up hb h
inductive Bo : Type 1
 | rg (b k : Nat) (cs : List Sc)
 | el (h : Hd) (z n b k : Nat) (cs : List Sc)
 | sl {α : Type} (i : Shape α) (h : Hd) (xs : List α) (fp : List Nat)
 | gr (g : Gr)
 | dv (h2 h1 : Hd) (a sz : Nat)
def Bo.holds (w : World) : Bo → Prop
 | .rg b k cs => w.rangeAt b k (cs.map Sc.val)
 | .el h z n b k cs => PA h.val z n b k ∧ w.rangeAt b k (cs.map Sc.val)
 | .sl _ h xs fp => Sl w h.val xs fp
 | .gr g => g.p w
 | .dv h2 h1 a sz => h2.val = sliced h1.ao a h1.n h1.cap sz
theorem Bo.up {w w' : World} (hb : Below w.heap.size w w') : ∀ {b : Bo}, b.holds w → b.holds w'
 | .rg _ _ _, h => dT h hb
 | .el _ _ _ _ _ _, h => ⟨h.1, dT h.2 hb⟩
 | .sl _ _ _ _, h => Sl.below h hb
 | .gr g, h => g.up hb h
 | .dv _ _ _ _, h => h
inductive Ob : Type 1
 | bx (b : Nat) (pre : List Value) (cs : List Sc) (post : List Value) (t : TypeId)
 | own {α : Type} (i : Shape α) (h : Hd) (xs : List α) (fp : List Nat)
 | row {α : Type} (i : Shape α) (e : TypeId) (h : Hd) (xs : List α) (fe : List Nat)
 | rs {α : Type} (i : Shape α) (h : Hd) (b : Nat) (pre post : List Value) (xs : List α) (n : Nat) (fr : List Nat) (r : Nat)
 | raw (r : Res)
def Ob.res : Ob → Res
 | .bx b pre cs post t => Res.bx b (pre ++ cs.map Sc.val ++ post) t
 | .own _ h xs fp => Res.own h.val xs fp
 | .row _ e h xs fe => Res.row e h.val xs fe
 | .rs _ h b pre post xs n fr _ => Res.rest h.val b pre post xs n fr
 | .raw r => r
structure S where
 E : List (Nat × SV)
 O : List (Nat × Ob)
 B : List (Nat × Bool × Bo)
 nx : Nat
def S.rs (s : S) : List Res := s.O.map fun p => p.2.res
def lku {α : Type u} : List (Nat × α) → Nat → Option α
 | [], _ => none
 | (t, v) :: E, x => cond (Nat.beq x t) (some v) (lku E x)
theorem kN {α : Type u} : ∀ {E : List (Nat × α)} {x : Nat} {v : α}, lku E x = some v → (x, v) ∈ E
 | [], _, _, h => by cases h
 | (t, v) :: E, x, u, h => by
  unfold lku at h
  cases hb : Nat.beq x t with
  | true => rw [hb] at h; simp only [cond_true, Option.some.injEq] at h; subst h; rw [Nat.eq_of_beq_eq_true hb]; exact mem_cons_self
  | false => rw [hb] at h; exact mem_cons_of_mem _ (kN h)
def Fr (E : List (Nat × SV)) (f : Nat → Value) : Prop := ∀ t x, lku E t = some x → f t = x.val
def Facts (w0 W : World) (B : List (Nat × Bool × Bo)) : Prop := ∀ e ∈ B, e.2.2.holds (cond e.2.1 w0 W)
theorem Facts.up {w0 W W' : World} {B : List (Nat × Bool × Bo)} (h : Facts w0 W B) (hb : Below W.heap.size W W') : Facts w0 W' B := by
 intro e he
 have := h e he
 cases hl : e.2.1 with
 | true => rw [hl] at this; exact this
 | false => rw [hl] at this; exact Bo.up hb this
theorem Facts.now {w0 W : World} {B : List (Nat × Bool × Bo)} (h : Facts w0 W B) (hb : Below w0.heap.size w0 W) {j : Nat} {l : Bool} {b : Bo} (hj : lku B j = some (l, b)) : b.holds W := by
 have := h _ (kN hj)
 cases l with
 | true => exact Bo.up hb this
 | false => exact this
def lasting : List (Nat × Bool × Bo) → List (Nat × Bool × Bo)
 | [] => []
 | (j, l, b) :: B => cond l ((j, l, b) :: lasting B) (lasting B)
theorem Facts.lasting {w0 W W' : World} : ∀ {B : List (Nat × Bool × Bo)}, Facts w0 W B → Facts w0 W' (lasting B)
 | [], _ => fun e he => by cases he
 | (j, l, b) :: B, h => by
  have ih := Facts.lasting (W' := W') (fun e he => h e (mem_cons_of_mem _ he))
  cases l with
  | true =>
   intro e he
   rcases mem_cons.1 he with rfl | he
   ·exact h _ mem_cons_self
   ·exact ih e he
  | false => exact ih
structure Den (w0 : World) (s : S) (f : Nat → Value) (W : World) : Prop where
 fr : Fr s.E f
 st : St w0 W s.rs
 fa : Facts w0 W s.B
theorem Fr.put {E : List (Nat × SV)} {f : Nat → Value} (h : Fr E f) (d : Nat) (x : SV) : Fr ((d, x) :: E) (cZ f (some d) x.val) := by
 intro t u hx
 unfold lku at hx
 simp only [cZ, upd]
 cases hb : Nat.beq t d with
 | true => rw [hb] at hx; simp only [cond_true, Option.some.injEq] at hx; rw [← hx]; rfl
 | false => rw [hb] at hx; exact h t u hx
theorem Fr.know {E : List (Nat × SV)} {f : Nat → Value} (h : Fr E f) (d : Nat) (x : SV) (he : f d = x.val) : Fr ((d, x) :: E) f := by
 intro t u hx
 unfold lku at hx
 cases hb : Nat.beq t d with
 | true => rw [hb] at hx; simp only [cond_true, Option.some.injEq] at hx; rw [← hx, Nat.eq_of_beq_eq_true hb]; exact he
 | false => rw [hb] at hx; exact h t u hx

def Res.pc (cs : List Value) (ls : List Lf) (fp : List Nat) : Res where
 fp := fp
 holds := fun W => eE W cs ls fp ∧ ∀ b ∈ fp, Wr W b
 loc := by
  intro W W' hs hb ⟨h, hw⟩
  refine ⟨?_, fun c hc => (hw c hc).loc (hb c hc)⟩
  clear hw
  induction ls generalizing cs fp with
  | nil => cases cs with
   | nil => exact h
   | cons c cs => exact h.elim
  | cons l ls ih =>
   cases cs with
   | nil => cases l <;> exact h.elim
   | cons c cs =>
    cases l with
    | v x => exact ⟨h.1, ih cs fp hb h.2⟩
    | s β i ys =>
     obtain ⟨f1, f2, h1, h2, rfl⟩ := h
     exact ⟨f1, f2, h1.loc (fun b hm o => gN (hb b (by simp [hm])) o) hs, ih cs f2 (fun b hm => hb b (by simp [hm])) h2, rfl⟩
 wr := fun h => h.2
inductive Par : Type 1
 | v (x : Value)
 | b (e : Bool)
 | st {α : Type} (i : Dsh α) (x : α)
 | sl {β : Type} (i : Shape β) (xs : List β)
def Par.at (w : World) (u : Value) : Par → Prop
 | .v x => u = x
 | .b e => u = .bool e
 | .st i x => ∃ cs fp, u = .agg cs.toArray ∧ i.C w cs x fp
 | .sl i xs => ∃ fp, Sl w u xs fp
def Pars (w : World) : List Value → List Par → Prop
 | [], [] => True
 | u :: us, p :: ps => p.at w u ∧ Pars w us ps
 | _, _ => False
inductive Rk : Type 1
 | v (x : Value)
 | own {α : Type} (i : Dsh α) (x : α)
 | sl {β : Type} (i : Shape β) (xs : List β)
def Rk.at (u : Value) (rs : List Res) : Rk → Prop
 | .v x => u = x ∧ rs = []
 | .own i x => ∃ cs fp, u = .agg cs.toArray ∧ rs = [@Res.cs _ i.toShape cs x fp]
 | .sl i xs => ∃ fp, rs = [Res.own u xs fp]
def Rks : List Value → List Rk → List Res → Prop
 | [], [], rs => rs = []
 | u :: us, k :: ks, rs => ∃ r1 r2, k.at u r1 ∧ Rks us ks r2 ∧ rs = r1 ++ r2
 | _, _, _ => False
def wE : List Value → Value
 | [u] => u
 | us => .tuple us.toArray
structure Cg (P : Program) (F : FuncId) (G : Option Gr) (ps : List Par) {A : Type} (R : A → Prop) (rk : A → List Rk) : Prop where
 run : ∀ w us, Gin G w → Pars w us ps → Calls P F us.toArray w fun e W => ∃ a vs rs, R a ∧ e = .returned (wE vs) ∧ Rks vs (rk a) rs ∧ St w W rs
abbrev Ct (P : Program) (F : FuncId) (ps : List Par) {A : Type} (R : A → Prop) (rk : A → List Rk) : Prop := Cg P F none ps R rk
abbrev Ct1 (P : Program) (F : FuncId) (ps : List Par) (rk : List Rk) : Prop := Ct P F ps (fun _ : Unit => True) (fun _ => rk)
structure Cm (P : Program) (F : FuncId) (ps : List Par) {α : Type} (i : Dsh α) (x : α) {A : Type} (R : A → Prop) (y : A → α) (rk : A → List Rk) : Prop where
 run : ∀ w W0 b pre post t cs fp us rs, St w W0 (Res.bx b (pre ++ cs ++ post) t :: Res.pc cs (i.lv x) fp :: rs) → Pars w us ps → Calls P F (Value.pointer (some ⟨b, pre.length, none⟩) :: us).toArray W0 fun e W =>
  ∃ a vs cs' fp' rr, R a ∧ e = .returned (wE vs) ∧ Rks vs (rk a) rr ∧ St w W (Res.bx b (pre ++ cs' ++ post) t :: Res.pc cs' (i.lv (y a)) fp' :: (rr ++ rs))
def lns : List Lf → Prop
 | [] => True
 | .v _ :: ls => lns ls
 | .s _ _ ys :: ls => ys.length ≤ 9223372036854775807 ∧ lns ls
def Rk.gd : Rk → Prop
 | .v _ => True
 | .own i x => i.good x ∧ lns (i.lv x)
 | .sl _ xs => xs.length ≤ 9223372036854775807
def gds : List Rk → Prop
 | [] => True
 | .v _ :: ks => gds ks
 | k :: ks => k.gd ∧ gds ks
def gin : List Par → Prop
 | [] => True
 | .st i x :: ps => (i.good x ∧ lns (i.lv x)) ∧ gin ps
 | .sl _ xs :: ps => xs.length ≤ 9223372036854775807 ∧ gin ps
 | _ :: ps => gin ps
def gps : List Par → Prop
 | [] => True
 | .st i x :: ps => i.good x ∧ gps ps
 | _ :: ps => gps ps

/-! ### States of loops: what changes -/
inductive Tc
 | v (x : Value)
 | b (e : Bool)
 | p (j o : Nat)
 | r (j : Nat)
inductive Tv
 | c (x : Tc)
 | a (l : List Tc)
inductive To : Type 1
 | own {α : Type} (i : Shape α) (xs : List α)
 | row {α : Type} (i : Shape α) (e : TypeId) (xs : List α)
 | bx (cs : List Tc)

/-! ### Operations of other kinds, by what is shown of them -/
def BOk (P : Program) (b : BinOp) (x y z : Value) : Prop := ∀ {n : Nat} {f : Nat → Value} {W : World} {Q : Exit → Act → World → Prop} {K : Value → World → Prop} {d : Option Tmp} {ty : TypeId} {pos : String} {af : Array Go.Edge} {g : Option (Nat × Bool)} {t t' : TypeId} {xo yo : Operand}, ev n f xo = x → ev n f yo = y → K z W → Stp P n ⟨d, .binOp b t xo yo t', ty, pos, af, g⟩ f W Q K
def NOk (P : Program) (t : TypeId) (x : Value) (r : Bool) : Prop := ∀ {n : Nat} {f : Nat → Value} {W : World} {Q : Exit → Act → World → Prop} {K : Value → World → Prop} {d : Option Tmp} {ty : TypeId} {pos : String} {af : Array Go.Edge} {g : Option (Nat × Bool)} {t' : TypeId} {xo : Operand}, ev n f xo = x → K (.bool r) W → Stp P n ⟨d, .binOp .neq t xo (.const .nilIface) t', ty, pos, af, g⟩ f W Q K
def UOk (P : Program) (u : UnOp) (x z : Value) : Prop := ∀ {n : Nat} {f : Nat → Value} {W : World} {Q : Exit → Act → World → Prop} {K : Value → World → Prop} {d : Option Tmp} {ty : TypeId} {pos : String} {af : Array Go.Edge} {g : Option (Nat × Bool)} {t : TypeId} {xo : Operand}, ev n f xo = x → K z W → Stp P n ⟨d, .unOp u t xo, ty, pos, af, g⟩ f W Q K
def COk (P : Program) (t t' : TypeId) (x z : Value) : Prop := ∀ {n : Nat} {f : Nat → Value} {W : World} {Q : Exit → Act → World → Prop} {K : Value → World → Prop} {d : Option Tmp} {ty : TypeId} {pos : String} {af : Array Go.Edge} {g : Option (Nat × Bool)} {xo : Operand}, ev n f xo = x → K z W → Stp P n ⟨d, .convert t t' xo, ty, pos, af, g⟩ f W Q K
def XOk (P : Program) (t : TypeId) (x y z : Value) : Prop := ∀ {n : Nat} {f : Nat → Value} {W : World} {Q : Exit → Act → World → Prop} {K : Value → World → Prop} {d : Option Tmp} {ty : TypeId} {pos : String} {af : Array Go.Edge} {g : Option (Nat × Bool)} {xo yo : Operand}, ev n f xo = x → ev n f yo = y → K z W → Stp P n ⟨d, .index t xo yo, ty, pos, af, g⟩ f W Q K
def LOk (P : Program) (t : TypeId) (x : Value) (lo hi : Option Value) (z : Value) : Prop := ∀ {n : Nat} {f : Nat → Value} {W : World} {Q : Exit → Act → World → Prop} {K : Value → World → Prop} {d : Option Tmp} {ty : TypeId} {pos : String} {af : Array Go.Edge} {g : Option (Nat × Bool)} {xo : Operand} {lo' hi' : Option Operand}, ev n f xo = x → lo'.map (ev n f) = lo → hi'.map (ev n f) = hi → K z W → Stp P n ⟨d, .slice t xo lo' hi' none, ty, pos, af, g⟩ f W Q K
structure Tok {Γ : Type} (J : Γ → Prop) (m : Γ → Nat) (c : Nat)
structure Lsp : Type 1 where
 {Γ : Type}
 J : Γ → Prop
 m : Γ → Nat
 c : Nat
structure Jsp : Type 1 where
 {Γ : Type}
 J : Γ → Prop
inductive D (P : Program) {A : Type} (R : A → Prop) : Type 1
 | sp (p : Prop) (i : Decidable p) (t : p → D P R) (f : ¬ p → D P R)
 | sn (p : Prop) (i : Decidable p) (t : ¬ p → D P R) (f : p → D P R)
 | sb (e : Bool) (t : e = true → D P R) (f : e = false → D P R)
 | kn (e r : Bool) (h : e = r) (k : D P R)
 | ad (x y : Int) (h : I64 (x + y)) (k : D P R)
 | su (x y : Int) (h : I64 (x - y)) (k : D P R)
 | mu (x y : Int) (h : I64 (x * y)) (k : D P R)
 | qu (x y : Int) (h : (0 ≤ x ∧ x ≤ 9223372036854775807) ∧ 0 < y) (k : D P R)
 | ix {α : Type} (i : Dsh α) (xs : List α) (n : Nat) (x : α) (h : xs[n]? = some x) (e : Int) (he : e = n) (k : i.good x → D P R)
 | iy (j n : Nat) (e : Int) (he : e = n) (k : D P R)
 | cl {ps : List Par} {A' : Type} {R' : A' → Prop} {rk : A' → List Rk} {G : Option Gr} (F : FuncId) {fn : Func} (hf : P.funcs[F]? = some fn) (h : Cg P F G ps R' rk) (hg : gps ps) (k : ∀ a, R' a → gds (rk a) → D P R)
 | lp {Γ : Type} (J : Γ → Prop) (m : Γ → Nat) (ks ko kb : List Nat) (TE : Γ → List (Nat × Tv)) (TO : Γ → List (Nat × To)) (g : Γ) (h : J g) (sg : List (Nat × Nat)) (k : ∀ g, J g → Tok J m (m g) → D P R)
 | nx {Γ : Type} {J : Γ → Prop} {m : Γ → Nat} {c : Nat} (t : Tok J m c) (g : Γ) (h1 : J g) (h2 : m g < c) (sg : List (Nat × Nat))
 | rt (a : A) (h : R a)
 | ex {α : Type} {p : α → Prop} (h : ∃ x, p x) (k : ∀ x, p x → D P R)
 | oc {p q : Prop} (h : p ∨ q) (a : p → D P R) (b : q → D P R)
 | ab (h : False)
 | em {α : Type} (i : Shape α) (k : D P R)
 | li {α : Type} (i : Dsh α) (t : Nat) (ys : List α) (hne : ys ≠ []) (hl : ys.length ≤ 1000000) (h : ∀ y ∈ ys, i.good y) (k : D P R)
 | lr {α : Type} (i : Dsh α) (hp : @mD α i.toShape) (t : Nat) (ys : List α) (hl : ys.length ≤ 1000000) (h : ∀ y ∈ ys, i.good y) (k : D P R)
 | rd {α : Type} (i : Shape α) (r j : Nat) (xs : List α) (n : Nat) (h : n ≤ xs.length) (k : D P R)
 | td {α : Type} (i : Shape α) (xs : List α) (a b : Nat) (h : a ≤ b ∧ b ≤ xs.length) (ea eb : Int) (hea : ea = a) (heb : eb = b) (k : D P R)
 | ap {α : Type} (i : Dsh α) (xs ys : List α) (h : ∀ y ∈ ys, i.good y) (bytes : Nat) (h63 : xs.length + ys.length ≤ maxLen) (hby : (xs.length + ys.length) * bytes ≤ 140737488355328) (k : D P R)
 | cq {ps : List Par} {rk : List Rk} {G : Option Gr} (F : FuncId) {fn : Func} (hf : P.funcs[F]? = some fn) (h : Cg P F G ps (fun _ : Unit => True) (fun _ => rk)) (hg : gps ps) (k : gds rk → D P R)
 | sa (x y : ByteArray) (h : x.size + y.size ≤ 9223372036854775807) (k : D P R)
 | qe {cs ds : List Value} {t : TypeId} {b : Bool} (h : SEq P t cs ds b) (hg : P.eqGuardType P.depth t = false) (k : D P R)
 | tk {α : Type} (i : Shape α) (xs : List α) (n : Nat) (h : n ≤ xs.length) (e : Int) (he : e = n) (k : D P R)
 | dp {α : Type} (i : Shape α) (xs : List α) (n : Nat) (h : n ≤ xs.length) (e : Int) (he : e = n) (k : D P R)
 | as {α : Type} (i : Shape α) (hp : mD α) (xs ys : List α) (bytes : Nat) (h63 : xs.length + ys.length ≤ maxLen) (hby : (xs.length + ys.length) * bytes ≤ 140737488355328) (k : D P R)
 | pb (b : BinOp) {x y z : Value} (h : BOk P b x y z) (k : D P R)
 | pn (t : TypeId) (x : Value) (r : Bool) (h : NOk P t x r) (k : D P R)
 | pu (u : UnOp) {x z : Value} (h : UOk P u x z) (k : D P R)
 | pc {t t' : TypeId} {x z : Value} (h : COk P t t' x z) (k : D P R)
 | px {t : TypeId} {x y z : Value} (h : XOk P t x y z) (k : D P R)
 | pl {t : TypeId} {x : Value} {lo hi : Option Value} {z : Value} (h : LOk P t x lo hi z) (k : D P R)
 | so (bs : List UInt8) (k : D P R)
 | by_ (s : ByteArray) (h : s.size ≤ maxLen) (k : D P R)
 | le {α : Type} (i : Dsh α) (j : Nat) (xs : List α) (n : Nat) (x : α) (h : xs[n]? = some x) (k : i.good x → D P R)
 | gi {α : Type} (i : Dsh α) (j : Nat) (xs : List α) (y : α) (h : i.good y) (k : D P R)
 | il (n : Nat) (e : Int) (he : e = n) (k : D P R)
 | cm {ps : List Par} {α : Type} {i : Dsh α} {x : α} {A' : Type} {R' : A' → Prop} {y : A' → α} {rk : A' → List Rk} (F : FuncId) {fn : Func} (hf : P.funcs[F]? = some fn) (h : Cm P F ps i x R' y rk) (hg : gps ps) (k : ∀ a, R' a → lns (i.lv (y a)) → gds (rk a) → D P R)
 | rw {α : Type} (i : Shape α) (j : Nat) (xs ys : List α) (h : xs = ys) (k : D P R)
 | r0 {α : Type} (i : Shape α) (e : TypeId) (k : D P R)
 | dq {α : Type} (i : Shape α) (hp : mD α) (xs : List α) (n : Nat) (h : n ≤ xs.length) (e : Int) (he : e = n) (k : D P R)
 | rv (t : Nat) (x : Value) {y : Value} (h : y = x) (k : D P R)
 | rn {α : Type} (i : Shape α) (e : TypeId) (t : Nat) (k : D P R)
 | ul (n : Nat) (k : D P R)
 | lx {Γ : Type} (J : Γ → Prop) (m : Γ → Nat) (ks ko kb : List Nat) (TE : Γ → List (Nat × Tv)) (TO : Γ → List (Nat × To)) (g : Γ) (h : J g) (sg : List (Nat × Nat)) (k : ∀ g, J g → Tok J m (m g) → D P R)
   {Δ : Type} (Je : Δ → Prop) (ex : Nat) (ks2 ko2 kb2 : List Nat) (TE2 : Δ → List (Nat × Tv)) (TO2 : Δ → List (Nat × To)) (k2 : ∀ g, Je g → D P R)
 | jc {Δ : Type} (Je : Δ → Prop) (ks2 ko2 kb2 : List Nat) (TE2 : Δ → List (Nat × Tv)) (TO2 : Δ → List (Nat × To)) (k : D P R) (k2 : ∀ g, Je g → D P R)
 | xt {Δ : Type} (Je : Δ → Prop) (g : Δ) (h : Je g) (sg : List (Nat × Nat))
 | bs (xs : List UInt8) (b : ByteArray) (h63 : xs.length + b.size ≤ maxLen) (hby : xs.length + b.size ≤ 140737488355328) (k : D P R)
 | lj {α : Type} (i : Dsh α) (r o : Nat) (ys : List α) (hne : ys ≠ []) (hl : ys.length ≤ 1000000) (h : ∀ y ∈ ys, i.good y) (k : D P R)
section
variable {P : Program} {A : Type} {R : A → Prop}
def nrm : D P R → (D P R → Tr) → Tr
 | .ex (p := p) _ k, K => .fn fun x => .fp (p x) fun hx => nrm (k x hx) K
 | .oc (p := p) (q := q) _ a b, K => .an (.fp p fun h => nrm (a h) K) (.fp q fun h => nrm (b h) K)
 | .ab _, _ => .ok
 | d, K => K d
theorem dU {G : Prop} : ∀ {d : D P R} {K : D P R → Tr}, (nrm d K).holds → (∀ d', (K d').holds → G) → G := by
 intro d
 induction d with
 | ex h k ih =>
  intro K hh kk
  obtain ⟨x, hx⟩ := h
  exact ih x hx (hh x hx) kk
 | oc h a b iha ihb =>
  intro K hh kk
  rcases h with h | h
  ·exact iha h (hh.1 h) kk
  exact ihb h (hh.2 h) kk
 | ab h => exact fun _ _ => h.elim
 | _ => exact fun hh kk => kk _ hh
def bl (c : Sc) (d : D P R) (K : Bool → D P R → Tr) : Tr :=
 match c with
 | .vl (.bool true) => K true d
 | .vl (.bool false) => K false d
 | .bo e => nrm d fun d => match d with
  | .sp p i t f => .e0 e (@decide p i) (.an (.fp p fun h => K true (t h)) (.fp (¬ p) fun h => K false (f h)))
  | .sn p i t f => .e0 e (!@decide p i) (.an (.fp (¬ p) fun h => K true (t h)) (.fp p fun h => K false (f h)))
  | .sb e' t f => .e0 e e' (.an (.fp (e' = true) fun h => K true (t h)) (.fp (e' = false) fun h => K false (f h)))
  | .kn e' r _ k => .e0 e e' (K r k)
  | _ => .no
 | _ => .no
theorem aC4 {G : Prop} {c : Sc} {d : D P R} {K : Bool → D P R → Tr} (h : (bl c d K).holds) (k : ∀ r d', c.val = .bool r → (K r d').holds → G) : G := by
 unfold bl at h
 split at h
 ·exact k true _ rfl h
 ·exact k false _ rfl h
 ·next e =>
  refine dU h fun d' h => ?_
  split at h
  ·next p i t f =>
   obtain ⟨rfl, h1, h2⟩ := h
   by_cases hp : p
   ·exact k true _ (by simp [Sc.val, hp]) (h1 hp)
   exact k false _ (by simp [Sc.val, hp]) (h2 hp)
  ·next p i t f =>
   obtain ⟨rfl, h1, h2⟩ := h
   by_cases hp : p
   ·exact k false _ (by simp [Sc.val, hp]) (h2 hp)
   exact k true _ (by simp [Sc.val, hp]) (h1 hp)
  ·next e' t f =>
   obtain ⟨rfl, h1, h2⟩ := h
   cases he : e
   ·exact k false _ (by rw [he]; rfl) (h2 he)
   exact k true _ (by rw [he]; rfl) (h1 he)
  ·next e' r hr kk =>
   obtain ⟨rfl, h1⟩ := h
   exact k r _ (by simp [Sc.val, hr]) h1
  exact h.elim
 exact h.elim
end
end Go.Proofs.YtanpcpoogkdlaaaGreat
namespace Go.Proofs.YtanpcpoogkdlaaaGreat
set_option linter.unusedSimpArgs false
set_option linter.unusedVariables false
set_option maxHeartbeats 1000000
set_option maxHeartbeats 2000000
open Go.RowKit Go.Proofs.Tryz List

structure Dat : Type 1 where
 {α : Type}
 i : Shape α
 xs : List α
def uH (s : S) (j : Nat) : Option (Bool × Hd × Dat) :=
 match lku s.O j with
 | some (.own i h xs _) => some (false, h, ⟨i, xs⟩)
 | some (.row i _ h xs _) => some (false, h, ⟨i, xs⟩)
 | some _ => none
 | none => match lku s.B j with
  | some (l, .sl i h xs _) => some (l, h, ⟨i, xs⟩)
  | _ => none
def grT (s : S) (G : Option Gr) (k : Tr) : Tr :=
 match G with
 | none => k
 | some g => match lku s.B 999999 with
  | some (_, .gr g') => .e0 g' g k
  | _ => .no
theorem yZ {s : S} {G : Option Gr} {k : Tr} {w0 W : World} (h : (grT s G k).holds) (hb : Below w0.heap.size w0 W) (fa : Facts w0 W s.B) : Gin G W ∧ k.holds := by
 cases G with
 | none => exact ⟨trivial, h⟩
 | some g =>
  unfold grT at h
  simp only at h
  split at h
  ·next l g' hj =>
   obtain ⟨rfl, hk⟩ := h
   exact ⟨fa.now hb hj, hk⟩
  exact h.elim
theorem rI {O : List (Nat × Ob)} {j : Nat} {o : Ob} (h : lku O j = some o) : o.res ∈ O.map fun p => p.2.res := mem_map.2 ⟨_, kN h, rfl⟩
theorem jE {s : S} {j : Nat} {l : Bool} {h : Hd} {d : Dat} {w0 W : World} (e : uH s j = some (l, h, d)) (st : St w0 W s.rs) (fa : Facts w0 W s.B) : ∃ fp, @Sl d.α d.i (cond l w0 W) h.val d.xs fp := by
 unfold uH at e
 split at e
 ·next i h' xs fp hj =>
  simp only [Option.some.injEq, Prod.mk.injEq] at e
  obtain ⟨rfl, rfl, rfl⟩ := e
  exact ⟨_, aS (st.holds _ (rI hj))⟩
 ·next i te h' xs fp hj =>
  simp only [Option.some.injEq, Prod.mk.injEq] at e
  obtain ⟨rfl, rfl, rfl⟩ := e
  exact ⟨_, gB (st.holds _ (rI hj))⟩
 ·cases e
 split at e
 ·next l' i h' xs fp hj =>
  simp only [Option.some.injEq, Prod.mk.injEq] at e
  obtain ⟨rfl, rfl, rfl⟩ := e
  exact ⟨fp, fa _ (kN hj)⟩
 cases e
def rgOf (s : S) (j : Nat) : Option (Nat × Nat × List Sc) :=
 match lku s.O j with
 | some (.bx b pre cs _ _) => some (b, pre.length, cs)
 | some _ => none
 | none => match lku s.B j with
  | some (_, .rg b k cs) => some (b, k, cs)
  | some (_, .el _ _ _ b k cs) => some (b, k, cs)
  | _ => none
theorem wH {s : S} {j b k : Nat} {cs : List Sc} {w0 W : World} (e : rgOf s j = some (b, k, cs)) (st : St w0 W s.rs) (fa : Facts w0 W s.B) : W.rangeAt b k (cs.map Sc.val) := by
 unfold rgOf at e
 split at e
 ·next hj =>
  simp only [Option.some.injEq, Prod.mk.injEq] at e
  obtain ⟨rfl, rfl, rfl⟩ := e
  exact sT (st.holds _ (rI hj))
 ·cases e
 split at e
 ·next hj =>
  simp only [Option.some.injEq, Prod.mk.injEq] at e
  obtain ⟨rfl, rfl, rfl⟩ := e
  exact fa.now st.below hj
 ·next hj =>
  simp only [Option.some.injEq, Prod.mk.injEq] at e
  obtain ⟨rfl, rfl, rfl⟩ := e
  exact (fa.now st.below hj).2
 cases e

section
variable {P : Program} {A : Type} {R : A → Prop}
def pU (l : Bool) : List Lf → S → (List Sc → S → Tr) → Tr
 | [], s, K => K [] s
 | .v x :: ls, s, K => pU l ls s fun cs s => K (sc x :: cs) s
 | .s _ i ys :: ls, s, K => .fn fun g : Hd × List Nat => pU l ls ⟨s.E, s.O, (s.nx, l, .sl i g.1 ys g.2) :: s.B, s.nx + 1⟩ fun cs s' => K (.rf s.nx g.1 :: cs) s'
theorem mL {G : Prop} {l : Bool} {w0 W : World} : ∀ {ls : List Lf} {s : S} {K : List Sc → S → Tr} {cs : List Value} {fp : List Nat}, (pU l ls s K).holds → eE (cond l w0 W) cs ls fp → Facts w0 W s.B →
  (∀ scs s', (K scs s').holds → scs.map Sc.val = cs → s'.E = s.E → s'.O = s.O → Facts w0 W s'.B → G) → G
 | [], s, K, [], fp, h, hc, fa, k => k [] s h rfl rfl rfl fa
 | [], s, K, c :: cs, fp, h, hc, fa, k => hc.elim
 | .v x :: ls, s, K, [], fp, h, hc, fa, k => hc.elim
 | .s _ _ _ :: ls, s, K, [], fp, h, hc, fa, k => hc.elim
 | .v x :: ls, s, K, c :: cs, fp, h, hc, fa, k => by
  refine mL (K := fun cs s => K (sc x :: cs) s) h hc.2 fa fun scs s' h' e1 e2 e3 fa' => k _ s' h' ?_ e2 e3 fa'
  rw [map_cons, jJ, e1, hc.1]
 | .s _ i ys :: ls, s, K, c :: cs, fp, h, hc, fa, k => by
  obtain ⟨f1, f2, h1, h2, _⟩ := hc
  obtain ⟨hd, rfl, hn⟩ := h1.hd
  refine mL (K := fun cs s' => K (.rf s.nx hd :: cs) s') (h (hd, f1)) h2 ?_ fun scs s' h' e1 e2 e3 fa' => k _ s' h' ?_ e2 e3 fa'
  ·intro e he
   rcases mem_cons.1 he with rfl | he
   ·exact h1
   ·exact fa e he
  ·rw [map_cons, e1]; rfl
def slT {α : Type} (s : S) (c : Sc) (i : Shape α) (ys : List α) (k : Tr) : Tr :=
 match c with
 | .rf j h => match uH s j with
  | some (_, h', d) => .e0 h h' (.e1 d ⟨i, ys⟩ k)
  | none => .no
 | .vl (.slice none 0 0) => .e1 (⟨i, []⟩ : Dat) ⟨i, ys⟩ k
 | _ => .no
theorem yL {α : Type} {s : S} {c : Sc} {i : Shape α} {ys : List α} {k : Tr} {w0 W : World} (h : (slT s c i ys k).holds) (st : St w0 W s.rs) (fa : Facts w0 W s.B) : (∃ fp, Sl W c.val ys fp) ∧ k.holds := by
 unfold slT at h
 split at h
 ·next j hd =>
  split at h
  ·next l h' d hj =>
   obtain ⟨rfl, rfl, hk⟩ := h
   obtain ⟨fp, hs⟩ := jE hj st fa
   refine ⟨⟨fp, ?_⟩, hk⟩
   cases l with
   | true => exact Sl.below hs st.below
   | false => exact hs
  exact h.elim
 ·obtain ⟨h1, hk⟩ := h
  simp only [Dat.mk.injEq, heq_eq_eq, true_and] at h1
  subst h1
  exact ⟨⟨[], nil_Sl⟩, hk⟩
 exact h.elim
def wT (s : S) : List Sc → List Lf → Tr → Tr
 | [], [], k => k
 | c :: cs, .v u :: ls, k => .e0 c.val u (wT s cs ls k)
 | c :: cs, .s _ i ys :: ls, k => slT s c i ys (wT s cs ls k)
 | _, _, _ => .no
theorem qF {s : S} {w0 W : World} (st : St w0 W s.rs) (fa : Facts w0 W s.B) : ∀ {cs : List Sc} {ls : List Lf} {k : Tr}, (wT s cs ls k).holds → (∃ fp, eE W (cs.map Sc.val) ls fp) ∧ k.holds
 | [], [], k, h => ⟨⟨[], rfl⟩, h⟩
 | c :: cs, .v u :: ls, k, h => by
  obtain ⟨h1, h2⟩ := h
  obtain ⟨⟨fp, h3⟩, hk⟩ := qF st fa h2
  exact ⟨⟨fp, h1, h3⟩, hk⟩
 | c :: cs, .s _ i ys :: ls, k, h => by
  obtain ⟨⟨f1, h1⟩, h2⟩ := yL h st fa
  obtain ⟨⟨f2, h3⟩, hk⟩ := qF st fa h2
  exact ⟨⟨f1 ++ f2, f1, f2, h1, h3, rfl⟩, hk⟩
 | [], .v _ :: _, _, h => h.elim
 | [], .s _ _ _ :: _, _, h => h.elim
 | _ :: _, [], _, h => h.elim
def mZ (s : S) : List SV → List Par → Tr → Tr
 | [], [], k => k
 | .on (.ce c) :: us, .v x :: ps, k => .e0 c.val x (mZ s us ps k)
 | .on (.ce c) :: us, .b e :: ps, k => .e0 c.val (.bool e) (mZ s us ps k)
 | .on (.ag l) :: us, .st i x :: ps, k => wT s l (i.lv x) (mZ s us ps k)
 | .on (.ce c) :: us, .sl i xs :: ps, k => slT s c i xs (mZ s us ps k)
 | _, _, _ => .no
theorem lP {s : S} {w0 W : World} (st : St w0 W s.rs) (fa : Facts w0 W s.B) : ∀ {us : List SV} {ps : List Par} {k : Tr}, (mZ s us ps k).holds → gps ps → Pars W (us.map SV.val) ps ∧ k.holds := by
 intro us
 induction us with
 | nil =>
  intro ps k h hg
  cases ps with
  | nil => exact ⟨trivial, h⟩
  | cons p ps => exact h.elim
 | cons u us ih =>
  intro ps k h hg
  unfold mZ at h
  split at h
  ·next heq1 => first | cases heq1 | (rename_i heq2; cases heq2)
  ·next c us' x ps' k' heq =>
   simp only [List.cons.injEq] at heq
   obtain ⟨rfl, rfl⟩ := heq
   obtain ⟨h1, h2⟩ := h
   obtain ⟨a, b⟩ := ih h2 hg
   exact ⟨⟨h1, a⟩, b⟩
  ·next c us' x ps' k' heq =>
   simp only [List.cons.injEq] at heq
   obtain ⟨rfl, rfl⟩ := heq
   obtain ⟨h1, h2⟩ := h
   obtain ⟨a, b⟩ := ih h2 hg
   exact ⟨⟨h1, a⟩, b⟩
  ·next _ _ _ l us' α i x ps' heq =>
   simp only [List.cons.injEq] at heq
   obtain ⟨rfl, rfl⟩ := heq
   obtain ⟨⟨fp, hc⟩, h2⟩ := qF st fa h
   obtain ⟨a, b⟩ := ih h2 hg.2
   exact ⟨⟨⟨_, fp, rfl, i.inn hg.1 hc⟩, a⟩, b⟩
  ·next c us' β i xs ps' k' heq =>
   simp only [List.cons.injEq] at heq
   obtain ⟨rfl, rfl⟩ := heq
   obtain ⟨hs, h2⟩ := yL h st fa
   obtain ⟨a, b⟩ := ih h2 hg
   exact ⟨⟨hs, a⟩, b⟩
  exact h.elim

/-! ### Steps that only read -/
def QS (P : Program) (lk : Operand → Option SV) (o : Op) (w0 W : World) (rs : List Res) (v : SV) : Prop :=
 ∀ {n : Nat} {f : Nat → Value} {W' : World} {Q : Exit → Act → World → Prop} {KK : Value → World → Prop} {d : Option Tmp} {ty : TypeId} {pos : String} {af : Array Go.Edge} {g : Option (Nat × Bool)},
  (∀ x u, lk x = some u → ev n f x = u.val) → St w0 W' rs → Below W.heap.size W W' → (∀ W'', St w0 W'' rs → Below W'.heap.size W' W'' → KK v.val W'') → Stp P n ⟨d, o, ty, pos, af, g⟩ f W' Q KK
def opt {α : Type u} (o : Option α) (K : α → Tr) : Tr :=
 match o with
 | some x => K x
 | none => .no
theorem aQ {G : Prop} {α : Type u} {o : Option α} {K : α → Tr} (h : (opt o K).holds) (k : ∀ x, o = some x → (K x).holds → G) : G := by
 unfold opt at h
 split at h
 ·exact k _ rfl h
 exact h.elim
def asC (v : SV) (K : Sc → Tr) : Tr :=
 match v with
 | .on (.ce c) => K c
 | _ => .no
theorem cH {G : Prop} {v : SV} {K : Sc → Tr} (h : (asC v K).holds) (k : ∀ c, v = .on (.ce c) → (K c).holds → G) : G := by
 unfold asC at h
 split at h
 ·exact k _ rfl h
 exact h.elim
abbrev one (c : Sc) : SV := .on (.ce c)
def arT (b : BinOp) (x y : Sc) (d : D P R) (K : SV → D P R → Tr) : Tr :=
 nrm d fun d => match b, d with
  | .add, .ad a c _ k => .e0 x.val (I a) (.e0 y.val (I c) (K (one (.vl (I (a + c)))) k))
  | .sub, .su a c _ k => .e0 x.val (I a) (.e0 y.val (I c) (K (one (.vl (I (a - c)))) k))
  | .mul, .mu a c _ k => .e0 x.val (I a) (.e0 y.val (I c) (K (one (.vl (I (a * c)))) k))
  | .quo, .qu a c _ k => .e0 x.val (I a) (.e0 y.val (I c) (K (one (.vl (I (a / c)))) k))
  | .rem, .qu a c _ k => .e0 x.val (I a) (.e0 y.val (I c) (K (one (.vl (I (a % c)))) k))
  | _, _ => .no
theorem arT_ok {G : Prop} {lk : Operand → Option SV} {w0 W : World} {rs : List Res} {b : BinOp} {x y : Operand} {t t' : TypeId} {cx cy : Sc} {d : D P R} {K : SV → D P R → Tr} (hx : lk x = some (one cx)) (hy : lk y = some (one cy)) (h : (arT b cx cy d K).holds)
  (k : ∀ v d', (K v d').holds → QS P lk (.binOp b t x y t') w0 W rs v → G) : G := by
 unfold arT at h
 refine dU h fun d' h => ?_
 split at h
 ·obtain ⟨h1, h2, h3⟩ := h
  refine k _ _ h3 ?_
  intro n f W' Q KK d ty pos af g hl hst hb hk
  exact bN ((hl _ _ hx).trans h1) ((hl _ _ hy).trans h2) (by assumption) (hk W' hst (Below.refl _ _))
 ·obtain ⟨h1, h2, h3⟩ := h
  refine k _ _ h3 ?_
  intro n f W' Q KK d ty pos af g hl hst hb hk
  exact rC ((hl _ _ hx).trans h1) ((hl _ _ hy).trans h2) (by assumption) (hk W' hst (Below.refl _ _))
 ·obtain ⟨h1, h2, h3⟩ := h
  refine k _ _ h3 ?_
  intro n f W' Q KK d ty pos af g hl hst hb hk
  exact zW ((hl _ _ hx).trans h1) ((hl _ _ hy).trans h2) (by assumption) (hk W' hst (Below.refl _ _))
 ·obtain ⟨h1, h2, h3⟩ := h
  refine k _ _ h3 ?_
  intro n f W' Q KK d ty pos af g hl hst hb hk
  have hi := ‹(_ ∧ _) ∧ _›
  exact zU ((hl _ _ hx).trans h1) ((hl _ _ hy).trans h2) hi.1 hi.2 (hk W' hst (Below.refl _ _))
 ·obtain ⟨h1, h2, h3⟩ := h
  refine k _ _ h3 ?_
  intro n f W' Q KK d ty pos af g hl hst hb hk
  have hi := ‹(_ ∧ _) ∧ _›
  exact zT ((hl _ _ hx).trans h1) ((hl _ _ hy).trans h2) hi.1 hi.2 (hk W' hst (Below.refl _ _))
 exact h.elim
def boT (P : Program) {A : Type} {R : A → Prop} (b : BinOp) (t : TypeId) (x y : Sc) (d : D P R) (K : SV → D P R → Tr) : Tr :=
 cond (isAr b) (arT b x y d K) (opt (cmp P t b x.val y.val) fun e => K (one (.bo e)) d)
theorem boT_ok {G : Prop} {lk : Operand → Option SV} {w0 W : World} {rs : List Res} {b : BinOp} {x y : Operand} {t t' : TypeId} {cx cy : Sc} {d : D P R} {K : SV → D P R → Tr} (hx : lk x = some (one cx)) (hy : lk y = some (one cy)) (h : (boT P b t cx cy d K).holds)
  (k : ∀ v d', (K v d').holds → QS P lk (.binOp b t x y t') w0 W rs v → G) : G := by
 unfold boT at h
 cases hb : isAr b with
 | true => rw [hb] at h; exact arT_ok hx hy h k
 | false =>
  rw [hb] at h
  refine aQ h fun e he h => k _ _ h ?_
  intro n f W' Q KK d ty pos af g hl hst hb hk
  exact aI1 he (hl _ _ hx) (hl _ _ hy) (hk W' hst (Below.refl _ _))
def ldT (P : Program) (s : S) (t : TypeId) (c : Sc) (K : SV → Tr) : Tr :=
 match c with
 | .pt j b k o => opt (rgOf s j) fun r => .e0 b r.1 <| .e0 k r.2.1 <| opt (ldK P t) fun z => match z with
  | none => opt (r.2.2[o]?) fun v => K (one v)
  | some z => .e0 ((r.2.2.drop o).take z).length z (K (.on (.ag ((r.2.2.drop o).take z))))
 | _ => .no
theorem ldT_ok {G : Prop} {lk : Operand → Option SV} {w0 W : World} {s : S} {x : Operand} {t : TypeId} {c : Sc} {K : SV → Tr} (hx : lk x = some (one c)) (h : (ldT P s t c K).holds) (fa : Facts w0 W s.B)
  (k : ∀ v, (K v).holds → QS P lk (.load t x) w0 W s.rs v → G) : G := by
 unfold ldT at h
 split at h
 ·next j b0 k0 o =>
  refine aQ h fun r hr h => ?_
  obtain ⟨b, kk, cs⟩ := r
  obtain ⟨h1, h2, h⟩ := h
  simp only at h1 h2
  subst h1 h2
  refine aQ h fun z hz h => ?_
  have hv : ∀ {n f}, (∀ x u, lk x = some u → ev n f x = u.val) → ev n f x = .pointer (some ⟨b0, k0 + o, none⟩) := fun hl => hl _ _ hx
  cases z with
  | none =>
   refine aQ h fun v hvv h => k _ h ?_
   intro n f W' Q KK d ty pos af g hl hst hb hk
   refine jM (cs := [v.val]) hz (hv hl) ?_ rfl (hk W' hst (Below.refl _ _))
   have hrg := wH hr hst (fa.up hb)
   intro q u hj
   cases q with
   | zero =>
    simp at hj; subst hj
    exact hrg o _ (by rw [getElem?_map]; simp only at hvv; rw [hvv]; rfl)
   | succ j => simp at hj
  | some z =>
   obtain ⟨h1, h⟩ := h
   simp only at h1
   refine k _ h ?_
   intro n f W' Q KK d ty pos af g hl hst hb hk
   have hrg := wH hr hst (fa.up hb)
   have := nK (i := o) (z := z) hrg
   refine jM (z := some z) (cs := ((cs.drop o).take z).map Sc.val) hz (hv hl) ?_ (by simpa using h1) (hk W' hst (Below.refl _ _))
   simpa [map_take, map_drop] using this
 exact h.elim
def ixT0 (P : Program) {A : Type} {R : A → Prop} (s : S) (t : TypeId) (c : Sc) (y : Sc) (d : D P R) (K : SV → S → D P R → Tr) : Tr :=
 nrm d fun d => match c, d with
  | .rf j h, .ix i xs n x _ e _ k => opt (uH s j) fun q => .e0 h q.2.1 <| .e1 q.2.2 ⟨i.toShape, xs⟩ <| .e0 y.val (I e) <| .e0 (elK P t) (some i.size) <|
    .fn fun g : Nat × Nat => pU q.1 (i.lv x) ⟨s.E, s.O, s.B, s.nx + 1⟩ fun cs s' => .fp (i.good x) fun hg => K (one (.pt s.nx g.1 g.2 0)) ⟨s'.E, s'.O, (s.nx, q.1, .el h i.size n g.1 g.2 cs) :: s'.B, s'.nx⟩ (k hg)
  | .rf j h, .iy r n e _ k => match lku s.B r with
   | some (l, .el h' z n' b o cs) => .e0 h h' <| .e0 n n' <| .e0 y.val (I e) <| .e0 (elK P t) (some z) <| K (one (.pt r b o 0)) s k
   | _ => .no
  | .rf j h, .il n e _ k => match lku s.O j with
   | some (.rs i h' b pre _ _ n' _ r) => .e0 h h' <| .e0 n n' <| .e0 y.val (I e) <| .e0 (elK P t) (some i.size) <| K (one (.pt r b pre.length 0)) s k
   | _ => .no
  | _, _ => .no
theorem PA_rest {α : Type} [Shape α] {v : Value} {b : Nat} {pre post : List Value} {xs : List α} {i : Nat} {fr : List Nat} {W : World} (h : (Res.rest v b pre post xs i fr).holds W) : PA v (Shape.size α) i b pre.length := by
 obtain ⟨⟨off, cap, f1, f2, p0, c1, c2, q0, h1, h2, h3, h4, h5, h6, h7, h8, h9, h10⟩, _⟩ := h
 refine ⟨off, xs.length, cap, h1, h4, ?_⟩
 rw [h5, length_append, h6, h8.len, length_take, Nat.min_eq_left aC]
theorem rD {n : Nat} {f : Nat → Value} {W : World} {Q : Exit → Act → World → Prop} {K : Value → World → Prop} {d : Option Tmp} {ty : TypeId} {pos : String} {af : Array Go.Edge} {g : Option (Nat × Bool)} {x y : Operand} {t : TypeId} {kk i b o : Nat} {e : Int} {u : Value}
  (hk' : elK P t = some kk) (hx : ev n f x = u) (hp : PA u kk i b o) (hy : ev n f y = I e) (he : e = i) (k : K (.pointer (some ⟨b, o, none⟩)) W) : Stp P n ⟨d, .indexAddr t x y, ty, pos, af, g⟩ f W Q K := by
 unfold elK at hk'
 split at hk'
 ·next te hu =>
  obtain ⟨j, hj, hk'⟩ := Option.bind_eq_some_iff.1 hk'
  simp only [Option.some.injEq] at hk'
  obtain ⟨off, len, cap, rfl, hi, rfl⟩ := hp
  subst he
  refine Stp.run (v := .pointer (some ⟨b, off + i * kk, none⟩)) ?_ k
  have hel : P.elem t = te := by simp [Program.elem, hu]
  have hu2 : P.underlying t = some (.slice (P.elem t)) := by rw [hel]; exact hu
  have hlt : (i : Int) < len := by omega
  simp [execOp, hx, hy, Sem.run_bind, run_indexAt_slice (h := hu2), hel, hlt, sizeOf, typeInfo, hj, hk', Addr.add]
 cases hk'
theorem idxG {α : Type} (i : Dsh α) {w : World} {v : Value} {xs : List α} {fp : List Nat} (hs : @Sl α i.toShape w v xs fp) {n : Nat} {x : α} (h : xs[n]? = some x) : ∃ b k cs f1, PA v i.size n b k ∧ w.rangeAt b k cs ∧ i.good x ∧ eE w cs (i.lv x) f1 := by
 obtain ⟨hn, rfl⟩ := gsi_.1 h
 obtain ⟨b, k, cs, f1, h1, h2, h3, _⟩ := idx hs hn
 obtain ⟨h4, h5⟩ := i.out h3
 exact ⟨b, k, cs, f1, h1, h2, h4, h5⟩
theorem ixT0_ok {G : Prop} {lk : Operand → Option SV} {w0 W : World} {s : S} {x y : Operand} {t : TypeId} {cx cy : Sc} {d : D P R} {K : SV → S → D P R → Tr} (hx : lk x = some (one cx)) (hy : lk y = some (one cy)) (h : (ixT0 P s t cx cy d K).holds) (st : St w0 W s.rs) (fa : Facts w0 W s.B)
  (k : ∀ v s' d', (K v s' d').holds → s'.E = s.E → s'.O = s.O → Facts w0 W s'.B → QS P lk (.indexAddr t x y) w0 W s.rs v → G) : G := by
 unfold ixT0 at h
 refine dU h fun d' h => ?_
 split at h
 ·next _ j hd α i xs m z hz e he kk _ =>
  refine aQ h fun q hq h => ?_
  obtain ⟨l, hd', dd⟩ := q
  obtain ⟨h1, h2, h3, h4, h⟩ := h
  simp only at h1 h2
  subst h1 h2
  obtain ⟨fp, hs⟩ := jE hq st fa
  obtain ⟨b, ko, cs, f1, g1, g2, g3, g4⟩ := idxG i hs hz
  refine mL (h (b, ko)) g4 (s := ⟨s.E, s.O, s.B, s.nx + 1⟩) fa fun scs s' h' e1 e2 e3 fa' => (k _ _ _ (h' g3) e2 e3 ?_ ?_)
  ·intro e he
   rcases mem_cons.1 he with rfl | he
   ·exact ⟨g1, by rw [e1]; exact g2⟩
   exact fa' e he
  intro n f W' Q KK d ty pos af g hl hst hb hk
  exact rD h4 (hl _ _ hx) g1 ((hl _ _ hy).trans h3) he (hk W' hst (Below.refl _ _))
 ·next _ _ j hd r m e he kk _ =>
  split at h
  ·next l hd' z m' b o cs hr =>
   obtain ⟨h1, h2, h3, h4, h⟩ := h
   subst h1 h2
   have hp := (fa.now st.below hr).1
   refine k _ _ _ h rfl rfl fa ?_
   intro n f W' Q KK d ty pos af g hl hst hb hk
   exact rD h4 (hl _ _ hx) hp ((hl _ _ hy).trans h3) he (hk W' hst (Below.refl _ _))
  exact h.elim
 ·next _ _ j hd m e he kk _ =>
  split at h
  ·next hj =>
   obtain ⟨h1, h2, h3, h4, h⟩ := h
   subst h1 h2
   have hp := PA_rest (st.holds _ (rI hj))
   refine k _ _ _ h rfl rfl fa ?_
   intro n f W' Q KK d ty pos af g hl hst hb hk
   exact rD h4 (hl _ _ hx) hp ((hl _ _ hy).trans h3) he (hk W' hst (Below.refl _ _))
  exact h.elim
 exact h.elim
theorem PA_lt {b n q z : Nat} (h : q < n) : PA (.slice (some ⟨b, 0, none⟩) n n) z q b (0 + q * z) := ⟨0, n, n, rfl, h, rfl⟩
def ixT (P : Program) {A : Type} {R : A → Prop} (s : S) (t : TypeId) (c : Sc) (y : Sc) (d : D P R) (K : SV → S → D P R → Tr) : Tr :=
 match c, y with
 | .lt j b n, .vl (.int .i64 (.ofNat q)) => .e0 (Nat.ble (q + 1) n) true <| opt (elK P t) fun z => K (one (.pt j b 0 (q * z))) s d
 | c, y => ixT0 P s t c y d K
theorem ixT_ok {G : Prop} {lk : Operand → Option SV} {w0 W : World} {s : S} {x y : Operand} {t : TypeId} {cx cy : Sc} {d : D P R} {K : SV → S → D P R → Tr} (hx : lk x = some (one cx)) (hy : lk y = some (one cy)) (h : (ixT P s t cx cy d K).holds) (st : St w0 W s.rs) (fa : Facts w0 W s.B)
  (k : ∀ v s' d', (K v s' d').holds → s'.E = s.E → s'.O = s.O → Facts w0 W s'.B → QS P lk (.indexAddr t x y) w0 W s.rs v → G) : G := by
 unfold ixT at h
 split at h
 ·next j b m q =>
  obtain ⟨h4, h⟩ := h
  refine aQ h fun z hz h => k _ _ _ h rfl rfl fa ?_
  intro n f W' Q KK d ty pos af g hl hst hb hk
  exact rD (e := (q : Int)) hz (hl _ _ hx) (PA_lt (Nat.le_of_ble_eq_true h4)) (hl _ _ hy) rfl (hk W' hst (Below.refl _ _))
 exact ixT0_ok hx hy h st fa k
end
end Go.Proofs.YtanpcpoogkdlaaaGreat
namespace Go.Proofs.YtanpcpoogkdlaaaGreat
set_option linter.unusedSimpArgs false
set_option linter.unusedVariables false
set_option maxRecDepth 100000
set_option maxHeartbeats 2000000
open Go.RowKit Go.Proofs.Tryz List
theorem PA.same {v : Value} {k i b o b' o' : Nat} (h : PA v k i b o) (h' : PA v k i b' o') : b = b' ∧ o = o' := by
 obtain ⟨off, len, cap, rfl, _, rfl⟩ := h
 obtain ⟨off', len', cap', e, _, rfl⟩ := h'
 injection e with e1 e2 e3
 injection e1 with e1
 injection e1 with e1 e4
 subst e1 e4
 exact ⟨rfl, rfl⟩
section
variable {P : Program} {n : Nat} {f : Nat → Value} {W w0 : World} {rs : List Res} {Q : Exit → Act → World → Prop} {K : Value → World → Prop}
 {d : Option Tmp} {ty : TypeId} {pos : String} {af : Array Go.Edge} {g : Option (Nat × Bool)} {α : Type} [Shape α]
theorem pI {t : TypeId} {x y : Operand} {b o i : Nat} {v u : Value} {xs : List α} {z : α} {fp : List Nat} (hs : Shape.size α = 1) (hi : (P.info? t).map (·.size) = some 1) (hx : ev n f x = .pointer (some ⟨b, o, none⟩)) (hPA : PA v (Shape.size α) i b o) (hl : i < xs.length) (hy : ev n f y = u) (h1 : u.cells = #[u]) (h2 : u.oneCell' = true)
  (hst : St w0 W (Res.own v xs fp :: rs)) (hc : ∀ W, Shape.C W [u] z []) (k : ∀ fp' W', St w0 W' (Res.own v (xs.set i z) fp' :: rs) → K undef W') : Stp P n ⟨d, .store t x y, ty, pos, af, g⟩ f W Q K := by
 obtain ⟨b', e, pre, cs, post, fi, fr, hPA', hC, st⟩ := St.lend (α := α) aC hst hl
 obtain ⟨rfl, rfl⟩ := hPA.same hPA'
 have hcl := Shape.len hC
 rw [hs] at hcl
 obtain ⟨c, rfl⟩ : ∃ c, cs = [c] := by
  cases cs with
  | nil => simp at hcl
  | cons c cs => cases cs with
   | nil => exact ⟨c, rfl⟩
   | cons _ _ => simp at hcl
 refine bB (i := 0) hi hx hy h1 h2 st rfl (Nat.le_refl _) rfl ?_
 intro W' st'
 have st2 := st'.d1
 have st3 := St.cs0 (cs := [u]) (x := z) st2 (hc W')
 have st4 := st3.f1
 obtain ⟨fp', st5⟩ := St.give (α := α) st4
 exact k fp' W' st5
theorem made_list (v : Value) (m : Nat) : (madeCells #[v] m).toList = List.replicate m v := by
 apply ext_getElem
 ·rw [Array.length_toList, size_madeCells, length_replicate]
 intro j h1 h2
 rw [getElem_replicate, Array.getElem_toList]
 simp [madeCells, Nat.mod_one]
theorem Elems.rep {W : World} {v : Value} {z : α} (h : Shape.C W [v] z []) : ∀ m, Elems W (List.replicate m v) (List.replicate m z) []
 | 0 => ⟨rfl, rfl⟩
 | m + 1 => ⟨[v], List.replicate m v, [], [], rfl, h, Elems.rep h m, rfl⟩
theorem pJ {t e : TypeId} {bytes : Nat} {x y : Operand} {N : Nat} {v : Value} {z : α} (hT : ApOk P t e α bytes) (hzero : ((P.info? e).bind (·.zero)).map (·.cells) = some #[v]) (hx : ev n f x = I (N : Int)) (hy : ev n f y = I (N : Int)) (hN : N ≤ 1048576 * 64) (hb : N * bytes ≤ 140737488355328) (hst : St w0 W rs) (hz : ∀ W, Shape.C W [v] z [])
  (k : ∀ b fp W', Below W.heap.size W W' → St w0 W' (Res.own (.slice (some ⟨b, 0, none⟩) N N) (List.replicate N z) fp :: rs) → K (.slice (some ⟨b, 0, none⟩) N N) W') : Stp P n ⟨d, .makeSlice t x y, ty, pos, af, g⟩ f W Q K := by
 obtain ⟨i, zz, hi, hzz, h1, h2, h3⟩ := hT.info
 have hzc : zz.cells = #[v] := by simpa [hi, hzz] using hzero
 have hs1 : Shape.size α = 1 := by rw [← h3, hzc]; rfl
 have hb' : (N : Int) * (bytes : Int) ≤ 140737488355328 := by have := Int.ofNat_le.2 hb; rw [Int.natCast_mul] at this; exact this
 have hmk := run_make (P := P) W t e i zz hT.desc hi hzz .i64 .i64 N N aC aC (by rw [h2, Int.mul_comm]; omega) aC
 rw [Int.toNat_natCast, h1, hs1, Nat.mul_one, hzc] at hmk
 refine Stp.run (v := .slice (some ⟨W.heap.size, 0, none⟩) N N) (W' := W.alloc (.cells (madeCells #[v] N) e)) (by simp only [execOp, hx, hy, Sem.run_bind, hmk, Result.andThen_ok]; rfl) ?_
 have h := hst.alloc (madeCells #[v] N).toList e
 rw [Array.toArray_toList] at h
 have hbl : Below W.heap.size W (W.alloc (.cells (madeCells #[v] N) e)) := eK (Below.refl _ _)
 have h' : St w0 (W.alloc (.cells (madeCells #[v] N) e)) (Res.bx W.heap.size (List.replicate N v) e :: rs) := by
  rw [made_list] at h; exact h
 have hr := St.row_lit (α := α) (m := N) (ys := List.replicate N z) h' (by simp) (by unfold maxLen; omega) (Elems.rep (hz _) N)
 obtain ⟨fp, hr2⟩ := hr.shut
 exact k _ fp _ hbl hr2
end
section
variable {P : Program} {W : World}
theorem aH8 {F : FuncId} {fn : Func} {c : Code} {m : Nat} {R : Ending → World → Prop} (hf : P.funcs[F]? = some fn) (hb : fn.body = some c) (hm : fn.ntmps = m) (hl : 0 ≤ m) (h : c.wp P (bodyPost P fn R) (act m u0) W) : Calls P F #[] W R := by
 subst hm
 refine calls_of_wp hf hb ?_
 rw [jZ fn.ntmps [] u0 (Nat.zero_le _) (fun t _ => rfl)]
 exact h
end
theorem row_Sl0 {α : Type} [Shape α] {W : World} {e : TypeId} {v : Value} {fe : List Nat} (h : (Res.row (α := α) e v [] fe).holds W) : Sl W v ([] : List α) [] := by simpa using gB h
theorem St.own_nil {α : Type} [Shape α] {w0 W : World} {rs : List Res} (h : St w0 W rs) : St w0 W (Res.own (.slice none 0 0) ([] : List α) [] :: rs) :=
 h.trade (rs1 := []) (rs2 := [Res.own (.slice none 0 0) ([] : List α) []]) (show ([] : List Nat).Nodup from nodup_nil) (fun b hb => absurd (show b ∈ ([] : List Nat) from hb) (by simp)) (by intro r hr; simp at hr; subst hr; exact ⟨nil_Sl.v, by simp⟩)
section
variable {α : Type} [Shape α]
theorem slq_h {w : World} {v : Value} {xs : List α} {fp : List Nat} {h : Nat} (hs : Sl w v xs fp) (hh : h ≤ xs.length) : ∃ u g, Sl w u (xs.take h) g ∧ (∀ c ∈ g, c ∈ fp) ∧
  ∀ {P : Program} {n : Nat} {f : Nat → Value} {W : World} {Q : Exit → Act → World → Prop} {K : Value → World → Prop} {d : Option Tmp} {ty : TypeId} {pos : String} {af : Array Go.Edge} {gd : Option (Nat × Bool)} {t t' : TypeId} {x y : Operand} {e : Int}, SlOk P t t' α → ev n f x = v → ev n f y = I e → e = h → K u W → Stp P n ⟨d, .slice t x none (some y) none, ty, pos, af, gd⟩ f W Q K := by
 obtain ⟨ao, cap, fp', rfl, hcap, hs', hf⟩ := hs.part 0 h (Nat.zero_le _) hh
 refine ⟨sliced ao 0 h cap (Shape.size α), fp', by simpa using hs', hf, ?_⟩
 intro P n f W Q K d ty pos af gd t t' x y e hT hx hy he k
 subst he
 have hel : P.elem t = t' := by simp [Program.elem, hT.desc]
 have hu : P.underlying t = some (.slice (P.elem t)) := by rw [hel]; exact hT.desc
 refine Stp.run (v := sliced ao 0 h cap (Shape.size α)) ?_ k
 simp only [execOp, hx, hy, Sem.run_bind, Option.map_none, Option.map_some]
 rw [run_sliceAt_slice (h := hu), run_slice_h (ht := hu) (h0 := by omega) (h2 := by omega), hel, oF hT.size]
 simp
theorem slq_l {w : World} {v : Value} {xs : List α} {fp : List Nat} {l : Nat} (hs : Sl w v xs fp) (hh : l ≤ xs.length) : ∃ u g, Sl w u (xs.drop l) g ∧ (∀ c ∈ g, c ∈ fp) ∧
  ∀ {P : Program} {n : Nat} {f : Nat → Value} {W : World} {Q : Exit → Act → World → Prop} {K : Value → World → Prop} {d : Option Tmp} {ty : TypeId} {pos : String} {af : Array Go.Edge} {gd : Option (Nat × Bool)} {t t' : TypeId} {x y : Operand} {e : Int}, SlOk P t t' α → ev n f x = v → ev n f y = I e → e = l → K u W → Stp P n ⟨d, .slice t x (some y) none none, ty, pos, af, gd⟩ f W Q K := by
 obtain ⟨ao, cap, fp', rfl, hcap, hs', hf⟩ := hs.part l xs.length hh (Nat.le_refl _)
 refine ⟨sliced ao l xs.length cap (Shape.size α), fp', by simpa using hs', hf, ?_⟩
 intro P n f W Q K d ty pos af gd t t' x y e hT hx hy he k
 subst he
 have hel : P.elem t = t' := by simp [Program.elem, hT.desc]
 have hu : P.underlying t = some (.slice (P.elem t)) := by rw [hel]; exact hT.desc
 refine Stp.run (v := sliced ao l xs.length cap (Shape.size α)) ?_ k
 simp only [execOp, hx, hy, Sem.run_bind, Option.map_none, Option.map_some]
 rw [run_sliceAt_slice (h := hu), run_slice_l (ht := hu) (h0 := by omega) (h1 := by omega), hel, oF hT.size]
 simp
end
section
variable {P : Program} {n : Nat} {f : Nat → Value} {W : World} {α : Type} [Shape α] [Agg α]
end
end Go.Proofs.YtanpcpoogkdlaaaGreat
namespace Go.Proofs.YtanpcpoogkdlaaaGreat
set_option linter.unusedSimpArgs false
set_option linter.unusedVariables false
set_option maxHeartbeats 1000000
set_option maxHeartbeats 2000000
open Go.RowKit Go.Proofs.Tryz List

section
variable {P : Program} {A : Type} {R : A → Prop}
theorem oC {t : TypeId} {α : Type} [Shape α] (h : elK P t = some (Shape.size α)) : ∃ e, SlOk P t e α := by
 unfold elK at h
 split at h
 ·next e hu =>
  obtain ⟨j, hj, h⟩ := Option.bind_eq_some_iff.1 h
  simp only [Option.some.injEq] at h
  exact ⟨e, ⟨hu, by rw [hj, Option.map_some, h]⟩⟩
 cases h
def aH0 (P : Program) (t : Nat) : Bool :=
 match P.underlying t with
 | some .string => true
 | _ => false
theorem isStr_ok {t : Nat} (h : aH0 P t = true) : P.underlying t = some .string := by
 unfold aH0 at h
 split at h
 ·next hu => exact hu
 cases h
section
variable {n : Nat} {f : Nat → Value} {W : World} {Q : Exit → Act → World → Prop} {K : Value → World → Prop} {d : Option Tmp} {ty : TypeId} {pos : String} {af : Array Go.Edge} {g : Option (Nat × Bool)}
theorem sE {x : Operand} {t : TypeId} {ao : Option Addr} {N cap : Nat} (hb : xS P t = true) (hx : ev n f x = .slice ao N cap) (k : K (I (N : Int)) W) : Stp P n ⟨d, .call { callee := .builtin .len, args := #[x], argTypes := #[t] }, ty, pos, af, g⟩ f W Q K := by
 unfold xS at hb
 split at hb
 ·next te ht =>
  refine Stp.run (v := I N) ?_ k
  have he : P.elem t = te := by simp [Program.elem, ht]
  have hu2 : P.underlying t = some (.slice (P.elem t)) := by rw [he]; exact ht
  simp [execOp, hx, resolve, invoke, builtin, Sem.run_bind, run_len_slice (h := hu2), goInt]
 cases hb
theorem stp_fld {x : Operand} {t i : Nat} {u v : Value} (hx : ev n f x = u) (hb : (Instr.field t u i).run P W = .ok v W) (k : K v W) : Stp P n ⟨d, .field t x i, ty, pos, af, g⟩ f W Q K :=
 Stp.run (v := v) (by simp [execOp, hx, Sem.run_bind, hb]) k
theorem stp_bld {t : TypeId} {parts : List (Nat × Operand)} {vs : List (Nat × Value)} {v : Value} (hv : parts.map (fun (i, x) => (i, ev n f x)) = vs) (hb : (Instr.build t vs.toArray).run P W = .ok v W) (k : K v W) : Stp P n ⟨d, .build t parts.toArray, ty, pos, af, g⟩ f W Q K :=
 Stp.run (v := v) (by
  have e1 : parts.toArray.map (fun (i, x) => (i, ev n f x)) = vs.toArray := by rw [← hv]; simp
  simp only [execOp, Sem.run_bind, e1, hb]; rfl) k
end
def lnT (P : Program) (s : S) (t : TypeId) (c : Sc) (K : SV → Tr) : Tr :=
 match c with
 | .rf j h => opt (uH s j) fun q => .e0 h q.2.1 <| .e0 (xS P t) true (K (one (.vl (I (q.2.2.xs.length : Int)))))
 | .lt _ _ n => .e0 (xS P t) true (K (one (.vl (I (n : Int)))))
 | .vl (.slice _ n _) => .e0 (xS P t) true (K (one (.vl (I (n : Int)))))
 | .vl (.string a) => .e0 (aH0 P t) true (K (one (.vl (I (a.size : Int)))))
 | _ => .no
theorem lnT_ok {G : Prop} {lk : Operand → Option SV} {w0 W : World} {s : S} {x : Operand} {t : TypeId} {c : Sc} {K : SV → Tr} (hx : lk x = some (one c)) (h : (lnT P s t c K).holds) (st : St w0 W s.rs) (fa : Facts w0 W s.B)
  (k : ∀ v, (K v).holds → QS P lk (.call { callee := .builtin .len, args := #[x], argTypes := #[t] }) w0 W s.rs v → G) : G := by
 unfold lnT at h
 split at h
 ·next j hd =>
  refine aQ h fun q hq h => ?_
  obtain ⟨l, hd', dd⟩ := q
  obtain ⟨h1, h2, h⟩ := h
  simp only at h1
  subst h1
  obtain ⟨fp, hs⟩ := jE hq st fa
  obtain ⟨ao, cap, e, _⟩ := hs
  refine k _ h ?_
  intro n f W' Q KK d ty pos af g hl hst hb hk
  exact sE h2 ((hl _ _ hx).trans e) (hk W' hst (Below.refl _ _))
 ·refine k _ h.2 ?_
  intro n f W' Q KK d ty pos af g hl hst hb hk
  exact sE h.1 (hl _ _ hx) (hk W' hst (Below.refl _ _))
 ·refine k _ h.2 ?_
  intro n f W' Q KK d ty pos af g hl hst hb hk
  exact sE h.1 (hl _ _ hx) (hk W' hst (Below.refl _ _))
 ·refine k _ h.2 ?_
  intro n f W' Q KK d ty pos af g hl hst hb hk
  exact nY (isStr_ok h.1) (hl _ _ hx) (hk W' hst (Below.refl _ _))
 exact h.elim
/-! ### Structs -/
def offs (P : Program) (t i : Nat) : Option (Nat × Option Nat) :=
 match P.underlying t with
 | some (.struct fs) => (fs[i]?).bind fun fd => (ldK P fd.type).map fun z => (fd.offset, z)
 | _ => none
def fldU (P : Program) (t i : Nat) (cs : List Sc) : Option SV :=
 (offs P t i).bind fun q => match q.2 with
  | none => (cs[q.1]?).map one
  | some z => some (.on (.ag ((cs.drop q.1).take z)))
def tvC : SV → List Sc
 | .on (.ce c) => [c]
 | .on (.ag l) => l
 | .tu _ => []
def put0 : List Sc → Nat → List Sc → List Sc
 | cs, _, [] => cs
 | [], _, _ :: _ => []
 | _ :: cs, 0, v :: vs => v :: put0 cs 0 vs
 | c :: cs, o + 1, vs => c :: put0 cs o vs
def mU (P : Program) (t : Nat) : List Sc := (((P.info? t).bind (·.zero)).map (fun z => z.cells.toList.map Sc.vl)).getD []
def bldU (P : Program) (t : Nat) : List (Nat × SV) → List Sc → List Sc
 | [], cs => cs
 | (i, v) :: ps, cs => bldU P t ps (match offs P t i with
  | some q => put0 cs q.1 (tvC v)
  | none => cs)
def lkp (lk : Operand → Option SV) : List (Nat × Operand) → Option (List (Nat × SV))
 | [] => some []
 | (i, x) :: ps => (lk x).bind fun v => (lkp lk ps).bind fun vs => some ((i, v) :: vs)
theorem yV {lk : Operand → Option SV} {n : Nat} {f : Nat → Value} (hl : ∀ x u, lk x = some u → ev n f x = u.val) : ∀ {ps : List (Nat × Operand)} {vs : List (Nat × SV)}, lkp lk ps = some vs → ps.map (fun (i, x) => (i, ev n f x)) = vs.map fun p => (p.1, p.2.val)
 | [], vs, h => by simp only [lkp, Option.some.injEq] at h; subst h; rfl
 | (i, x) :: ps, vs, h => by
  simp only [lkp] at h
  obtain ⟨v, hv, h⟩ := Option.bind_eq_some_iff.1 h
  obtain ⟨us, hu, h⟩ := Option.bind_eq_some_iff.1 h
  simp only [Option.some.injEq] at h
  subst h
  rw [map_cons, map_cons, yV hl hu]
  simp only [hl x v hv]
def lkv (lk : Operand → Option SV) : List Operand → Option (List SV)
 | [] => some []
 | x :: xs => (lk x).bind fun v => (lkv lk xs).bind fun vs => some (v :: vs)
theorem tG {lk : Operand → Option SV} {n : Nat} {f : Nat → Value} (hl : ∀ x u, lk x = some u → ev n f x = u.val) : ∀ {xs : List Operand} {vs : List SV}, lkv lk xs = some vs → xs.map (ev n f) = vs.map SV.val
 | [], vs, h => by simp only [lkv, Option.some.injEq] at h; subst h; rfl
 | x :: xs, vs, h => by
  simp only [lkv] at h
  obtain ⟨v, hv, h⟩ := Option.bind_eq_some_iff.1 h
  obtain ⟨us, hu, h⟩ := Option.bind_eq_some_iff.1 h
  simp only [Option.some.injEq] at h
  subst h
  rw [map_cons, map_cons, hl x v hv, tG hl hu]
/-! ### Calls of plain results -/
def allv : List Rk → Option (List TV)
 | [] => some []
 | .v x :: ks => (allv ks).map fun l => .ce (sc x) :: l
 | _ :: _ => none
def svq (ks : List Rk) : Option SV :=
 (allv ks).map fun l => match l with
  | [t] => .on t
  | l => .tu l
theorem aC8 : ∀ {ks : List Rk} {l : List TV}, allv ks = some l → gds ks ∧ ∀ {vs rs}, Rks vs ks rs → rs = [] ∧ vs = l.map TV.val
 | [], l, h => by
  simp only [allv, Option.some.injEq] at h
  subst h
  refine ⟨trivial, fun {vs rs} hr => ?_⟩
  cases vs with
  | nil => exact ⟨hr, rfl⟩
  | cons v vs => exact hr.elim
 | .v x :: ks, l, h => by
  simp only [allv, Option.map_eq_some_iff] at h
  obtain ⟨l', h', rfl⟩ := h
  obtain ⟨h1, h2⟩ := aC8 h'
  refine ⟨h1, fun {vs rs} hr => ?_⟩
  cases vs with
  | nil => exact hr.elim
  | cons v vs =>
   obtain ⟨r1, r2, h3, h4, rfl⟩ := hr
   obtain ⟨rfl, rfl⟩ := h2 h4
   obtain ⟨rfl, rfl⟩ := h3
   exact ⟨rfl, by rw [map_cons, TV.val, jJ]⟩
 | .own _ _ :: _, _, h => by cases h
 | .sl _ _ :: _, _, h => by cases h
theorem svq_ok {ks : List Rk} {v : SV} (h : svq ks = some v) : gds ks ∧ ∀ {vs rs}, Rks vs ks rs → rs = [] ∧ wE vs = v.val := by
 unfold svq at h
 simp only [Option.map_eq_some_iff] at h
 obtain ⟨l, h1, h2⟩ := h
 obtain ⟨h3, h4⟩ := aC8 h1
 refine ⟨h3, fun {vs rs} hr => ?_⟩
 obtain ⟨rfl, rfl⟩ := h4 hr
 refine ⟨rfl, ?_⟩
 split at h2
 ·subst h2; rfl
 next hne =>
 subst h2
 clear h1 h4 hr
 match l, hne with
 | [], _ => rfl
 | [t], hne => exact absurd rfl (hne t)
 | _ :: _ :: _, _ => rfl
def clQ (s : S) (lk : Operand → Option SV) (F : FuncId) (xs : List Operand) (d : D P R) (K : SV → D P R → Tr) : Tr :=
 nrm d fun d => match d with
  | .cq (ps := ps) (rk := rk) (G := G) F' (fn := fn) _ _ _ k => .e0 F F' <| .e0 ((fn.name == "runtime.NumGoroutine") || fn.body.isNone) false <| opt (lkv lk xs) fun us => mZ s us ps <| grT s G <| opt (svq rk) fun v => .fp (gds rk) fun hg => K v (k hg)
  | _ => .no
theorem clQ_ok {G : Prop} {lk : Operand → Option SV} {w0 W : World} {s : S} {F : FuncId} {xs : List Operand} {ats : Array TypeId} {d : D P R} {K : SV → D P R → Tr} (h : (clQ s lk F xs d K).holds) (st : St w0 W s.rs) (fa : Facts w0 W s.B)
  (k : ∀ v d', (K v d').holds → QS P lk (.call { callee := .value (.func F), args := xs.toArray, argTypes := ats }) w0 W s.rs v → G) : G := by
 unfold clQ at h
 refine dU h fun d' h => ?_
 split at h
 ·next ps rk G0 F' fn hf hct hg kk =>
  obtain ⟨rfl, ho, h⟩ := h
  refine aQ h fun us hus h => ?_
  obtain ⟨_, h'⟩ := lP st fa h hg
  obtain ⟨hG, h'⟩ := yZ h' st.below fa
  refine aQ h' fun v hv h' => ?_
  obtain ⟨hgd, hvr⟩ := svq_ok hv
  refine k _ _ (h' hgd) ?_
  intro n f W' Q KK d ty pos af g hl hst hb hk
  obtain ⟨hp, _⟩ := lP hst (fa.up hb) h hg
  refine iS hf ho (tG hl hus) ((hct.run W' _ (hG.up hb) hp).mono ?_)
  rintro e W'' ⟨_, vs, rs, _, rfl, hr, hst'⟩
  obtain ⟨rfl, e⟩ := hvr hr
  exact ⟨v.val, by rw [e], hk W'' (by simpa using hst.call hst') hst'.below⟩
 exact h.elim
/-! ### Parts of slices -/
theorem aE9 {α : Type} [Shape α] {w : World} {h : Hd} {xs : List α} {fp : List Nat} {a b : Nat} (hs : Sl w h.val xs fp) (h1 : a ≤ b) (h2 : b ≤ xs.length) : h.n = xs.length ∧ b ≤ h.cap ∧ ∃ g, Sl w (sliced h.ao a b h.cap (Shape.size α)) ((xs.take b).drop a) g ∧ ∀ c ∈ g, c ∈ fp := by
 obtain ⟨ao, cap, fp', e, hcap, hs', hf⟩ := hs.part a b h1 h2
 unfold Hd.val at e
 injection e with e1 e2 e3
 subst e1 e3
 exact ⟨e2, hcap, fp', hs', hf⟩
theorem aE8 {α : Type} [Shape α] {w : World} {h : Hd} {xs : List α} {fp : List Nat} {a : Nat} (hs : Sl w h.val xs fp) (h1 : a ≤ xs.length) : ∃ g, Sl w (sliced h.ao a h.n h.cap (Shape.size α)) (xs.drop a) g ∧ ∀ c ∈ g, c ∈ fp := by
 obtain ⟨e, hcap, g, hs', hf⟩ := aE9 hs h1 (Nat.le_refl _)
 rw [e]
 exact ⟨g, by simpa using hs', hf⟩
theorem stp_sl_l {α : Type} [Shape α] {P : Program} {n : Nat} {f : Nat → Value} {W : World} {Q : Exit → Act → World → Prop} {K : Value → World → Prop} {d : Option Tmp} {ty : TypeId} {pos : String} {af : Array Go.Edge} {gd : Option (Nat × Bool)} {t t' : TypeId} {x y : Operand} {h : Hd} {l : Nat} {e : Int} (hT : SlOk P t t' α) (hx : ev n f x = h.val) (hy : ev n f y = I e) (he : e = l) (hl : l ≤ h.n) (k : K (sliced h.ao l h.n h.cap (Shape.size α)) W) : Stp P n ⟨d, .slice t x (some y) none none, ty, pos, af, gd⟩ f W Q K := by
 subst he
 have hel : P.elem t = t' := by simp [Program.elem, hT.desc]
 have hu : P.underlying t = some (.slice (P.elem t)) := by rw [hel]; exact hT.desc
 refine Stp.run (v := sliced h.ao l h.n h.cap (Shape.size α)) ?_ k
 simp only [execOp, hx, hy, Sem.run_bind, Option.map_none, Option.map_some, Hd.val]
 rw [run_sliceAt_slice (h := hu), run_slice_l (ht := hu) (h0 := by omega) (h1 := by omega), hel, oF hT.size]
 simp
theorem stp_sl_lh {α : Type} [Shape α] {P : Program} {n : Nat} {f : Nat → Value} {W : World} {Q : Exit → Act → World → Prop} {K : Value → World → Prop} {d : Option Tmp} {ty : TypeId} {pos : String} {af : Array Go.Edge} {gd : Option (Nat × Bool)} {t t' : TypeId} {x y z : Operand} {h : Hd} {a b : Nat} {ea eb : Int} (hT : SlOk P t t' α) (hx : ev n f x = h.val) (hy : ev n f y = I ea) (hz : ev n f z = I eb) (he : ea = a) (he2 : eb = b) (h1 : a ≤ b) (h2 : b ≤ h.cap) (k : K (sliced h.ao a b h.cap (Shape.size α)) W) : Stp P n ⟨d, .slice t x (some y) (some z) none, ty, pos, af, gd⟩ f W Q K := by
 subst he he2
 have hel : P.elem t = t' := by simp [Program.elem, hT.desc]
 have hu : P.underlying t = some (.slice (P.elem t)) := by rw [hel]; exact hT.desc
 refine Stp.run (v := sliced h.ao a b h.cap (Shape.size α)) ?_ k
 simp only [execOp, hx, hy, hz, Sem.run_bind, Option.map_none, Option.map_some, Hd.val]
 rw [run_sliceAt_slice (h := hu), run_slice_lh (ht := hu) (h0 := by omega) (h1 := by omega) (h2 := by omega), hel, oF hT.size]
 simp
def tdT (P : Program) {A : Type} {R : A → Prop} (s : S) (t : TypeId) (c y z : Sc) (d : D P R) (K : SV → S → D P R → Tr) : Tr :=
 nrm d fun d => match c, d with
  | .rf j h, .td i xs a b _ ea eb _ _ k => opt (uH s j) fun q => .e0 h q.2.1 <| .e1 q.2.2 ⟨i, xs⟩ <| .e0 y.val (I ea) <| .e0 z.val (I eb) <| .e0 (elK P t) (some i.size) <|
    .fn fun g : Hd × List Nat => K (one (.rf s.nx g.1)) ⟨s.E, s.O, (s.nx, q.1, .sl i g.1 ((xs.take b).drop a) g.2) :: s.B, s.nx + 1⟩ k
  | _, _ => .no
theorem tdT_ok {G : Prop} {lk : Operand → Option SV} {w0 W : World} {s : S} {x y z : Operand} {t : TypeId} {cx cy cz : Sc} {d : D P R} {K : SV → S → D P R → Tr} (hx : lk x = some (one cx)) (hy : lk y = some (one cy)) (hz : lk z = some (one cz)) (h : (tdT P s t cx cy cz d K).holds) (st : St w0 W s.rs) (fa : Facts w0 W s.B)
  (k : ∀ v s' d', (K v s' d').holds → s'.E = s.E → s'.O = s.O → Facts w0 W s'.B → QS P lk (.slice t x (some y) (some z) none) w0 W s.rs v → G) : G := by
 unfold tdT at h
 refine dU h fun d' h => ?_
 split at h
 ·next _ j hd α i xs a b hab ea eb hea heb kk _ =>
  refine aQ h fun q hq h => ?_
  obtain ⟨l, hd', dd⟩ := q
  obtain ⟨h1, h2, h3, h3', h4, h⟩ := h
  simp only at h1 h2
  subst h1 h2
  obtain ⟨fp, hs⟩ := jE hq st fa
  obtain ⟨_, hcap, g, hs', _⟩ := aE9 hs hab.1 hab.2
  obtain ⟨hd2, e2, _⟩ := hs'.hd
  obtain ⟨t2, hT⟩ := oC h4
  refine k _ _ _ (h (hd2, g)) rfl rfl ?_ ?_
  ·intro e he
   rcases mem_cons.1 he with rfl | he
   ·have hs3 := hs'
    rw [e2] at hs3
    exact hs3
   exact fa e he
  intro n f W' Q KK d ty pos af g hl hst hb hk
  refine stp_sl_lh hT (hl _ _ hx) ((hl _ _ hy).trans h3) ((hl _ _ hz).trans h3') hea heb hab.1 hcap ?_
  rw [e2]
  exact hk W' hst (Below.refl _ _)
 exact h.elim
def tkT (P : Program) {A : Type} {R : A → Prop} (s : S) (t : TypeId) (c y : Sc) (d : D P R) (K : SV → S → D P R → Tr) : Tr :=
 nrm d fun d => match c, d with
  | .rf j h, .tk i xs n _ e _ k => opt (uH s j) fun q => .e0 h q.2.1 <| .e1 q.2.2 ⟨i, xs⟩ <| .e0 y.val (I e) <| .e0 (elK P t) (some i.size) <|
    .fn fun g : Hd × List Nat => K (one (.rf s.nx g.1)) ⟨s.E, s.O, (s.nx, q.1, .sl i g.1 (xs.take n) g.2) :: s.B, s.nx + 1⟩ k
  | _, _ => .no
def dpT (P : Program) {A : Type} {R : A → Prop} (s : S) (t : TypeId) (c y : Sc) (d : D P R) (K : SV → S → D P R → Tr) : Tr :=
 nrm d fun d => match c, d with
  | .rf j h, .dp i xs n _ e _ k => opt (uH s j) fun q => .e0 h q.2.1 <| .e1 q.2.2 ⟨i, xs⟩ <| .e0 y.val (I e) <| .e0 (elK P t) (some i.size) <|
    .fn fun g : Hd × List Nat => K (one (.rf s.nx g.1)) ⟨s.E, s.O, (s.nx, q.1, .sl i g.1 (xs.drop n) g.2) :: (s.nx + 2000000, true, .dv g.1 h n i.size) :: s.B, s.nx + 1⟩ k
  | _, _ => .no
theorem tkT_ok {G : Prop} {lk : Operand → Option SV} {w0 W : World} {s : S} {x y : Operand} {t : TypeId} {cx cy : Sc} {d : D P R} {K : SV → S → D P R → Tr} (hx : lk x = some (one cx)) (hy : lk y = some (one cy)) (h : (tkT P s t cx cy d K).holds) (st : St w0 W s.rs) (fa : Facts w0 W s.B)
  (k : ∀ v s' d', (K v s' d').holds → s'.E = s.E → s'.O = s.O → Facts w0 W s'.B → QS P lk (.slice t x none (some y) none) w0 W s.rs v → G) : G := by
 unfold tkT at h
 refine dU h fun d' h => ?_
 split at h
 ·next _ j hd α i xs m hm e he kk _ =>
  refine aQ h fun q hq h => ?_
  obtain ⟨l, hd', dd⟩ := q
  obtain ⟨h1, h2, h3, h4, h⟩ := h
  simp only at h1 h2
  subst h1 h2
  obtain ⟨fp, hs⟩ := jE hq st fa
  obtain ⟨u, g, hs', _, hstep⟩ := slq_h hs hm
  obtain ⟨hd2, rfl, _⟩ := hs'.hd
  obtain ⟨e2, hT⟩ := oC h4
  refine k _ _ _ (h (hd2, g)) rfl rfl ?_ ?_
  ·intro e he
   rcases mem_cons.1 he with rfl | he
   ·exact hs'
   exact fa e he
  intro n f W' Q KK d ty pos af g hl hst hb hk
  exact hstep hT (hl _ _ hx) ((hl _ _ hy).trans h3) he (hk W' hst (Below.refl _ _))
 exact h.elim
theorem dpT_ok {G : Prop} {lk : Operand → Option SV} {w0 W : World} {s : S} {x y : Operand} {t : TypeId} {cx cy : Sc} {d : D P R} {K : SV → S → D P R → Tr} (hx : lk x = some (one cx)) (hy : lk y = some (one cy)) (h : (dpT P s t cx cy d K).holds) (st : St w0 W s.rs) (fa : Facts w0 W s.B)
  (k : ∀ v s' d', (K v s' d').holds → s'.E = s.E → s'.O = s.O → Facts w0 W s'.B → QS P lk (.slice t x (some y) none none) w0 W s.rs v → G) : G := by
 unfold dpT at h
 refine dU h fun d' h => ?_
 split at h
 ·next _ j hd α i xs m hm e he kk _ =>
  refine aQ h fun q hq h => ?_
  obtain ⟨l, hd', dd⟩ := q
  obtain ⟨h1, h2, h3, h4, h⟩ := h
  simp only at h1 h2
  subst h1 h2
  obtain ⟨fp, hs⟩ := jE hq st fa
  obtain ⟨hn, _⟩ := aE9 hs hm (Nat.le_refl _)
  obtain ⟨g, hs', _⟩ := aE8 hs hm
  obtain ⟨hd2, e2, _⟩ := hs'.hd
  obtain ⟨t2, hT⟩ := oC h4
  refine k _ _ _ (h (hd2, g)) rfl rfl ?_ ?_
  ·intro e he
   rcases mem_cons.1 he with rfl | he
   ·have hs3 := hs'
    rw [e2] at hs3
    exact hs3
   rcases mem_cons.1 he with rfl | he
   ·exact e2.symm
   exact fa e he
  intro n f W' Q KK d ty pos af g hl hst hb hk
  refine stp_sl_l hT (hl _ _ hx) ((hl _ _ hy).trans h3) he (by rw [hn]; exact hm) ?_
  rw [e2]
  exact hk W' hst (Below.refl _ _)
 exact h.elim
def lko (lk : Operand → Option SV) (o : Option Operand) : Option (Option SV) :=
 match o with
 | none => some none
 | some x => (lk x).map some
theorem aG6 {lk : Operand → Option SV} {n : Nat} {f : Nat → Value} (hl : ∀ x u, lk x = some u → ev n f x = u.val) {o : Option Operand} {v : Option SV} (h : lko lk o = some v) : o.map (ev n f) = v.map SV.val := by
 cases o with
 | none => simp only [lko, Option.some.injEq] at h; subst h; rfl
 | some x =>
  simp only [lko, Option.map_eq_some_iff] at h
  obtain ⟨u, hu, rfl⟩ := h
  simp [hl x u hu]
/-! ### All of them -/
def elT0 (P : Program) (t : Nat) : Nat :=
 match P.underlying t with
 | some (.slice e) => e
 | _ => 0
def isStrC : Sc → Bool
 | .vl (.string _) => true
 | _ => false
def slT4 (P : Program) {A : Type} {R : A → Prop} (lk : Operand → Option SV) (s : S) (t : TypeId) (x : Operand) (lo hi mx : Option Operand) (d : D P R) (K : SV → S → D P R → Tr) : Tr :=
 opt (lk x) fun v => asC v fun cx => match isStrC cx with
  | true => match mx with
   | none => opt (lko lk lo) fun l => opt (lko lk hi) fun h => nrm d fun d => match d with
    | .pl (t := a) (x := x) (lo := l') (hi := h') (z := z) _ k => .e0 t a <| .e0 cx.val x <| .e0 (l.map SV.val) l' <| .e0 (h.map SV.val) h' <| K (one (sc z)) s k
    | _ => .no
   | some _ => .no
  | false => match lo, hi, mx with
   | none, some y, none => opt (lk y) fun v => asC v fun cy => tkT P s t cx cy d K
   | some y, none, none => opt (lk y) fun v => asC v fun cy => dpT P s t cx cy d K
   | some y, some z, none => opt (lk y) fun v => asC v fun cy => opt (lk z) fun v => asC v fun cz => tdT P s t cx cy cz d K
   | _, _, _ => .no
theorem slT4_ok {G : Prop} {lk : Operand → Option SV} {w0 W : World} {s : S} {x : Operand} {lo hi mx : Option Operand} {t : TypeId} {d : D P R} {K : SV → S → D P R → Tr} (h : (slT4 P lk s t x lo hi mx d K).holds) (st : St w0 W s.rs) (fa : Facts w0 W s.B)
  (k : ∀ v s' d', (K v s' d').holds → s'.E = s.E → s'.O = s.O → Facts w0 W s'.B → QS P lk (.slice t x lo hi mx) w0 W s.rs v → G) : G := by
 unfold slT4 at h
 refine aQ h fun v hv h1 => cH h1 fun cx hc h2 => ?_
 subst hc
 split at h2
 ·split at h2
  ·refine aQ h2 fun l hl h3 => aQ h3 fun u hu h4 => dU h4 fun d' h5 => ?_
   split at h5
   ·next hL kk =>
    obtain ⟨rfl, e1, e2, e3, h6⟩ := h5
    refine k _ _ _ h6 rfl rfl fa ?_
    intro n f W' Q KK d ty pos af g hlk hst hb hk
    have hk2 := hk W' hst (Below.refl _ _)
    rw [show ∀ z : Value, (one (sc z)).val = z from fun z => jJ z] at hk2
    exact hL ((hlk _ _ hv).trans e1) ((aG6 hlk hl).trans e2) ((aG6 hlk hu).trans e3) hk2
   exact h5.elim
  exact h2.elim
 split at h2
 ·refine aQ h2 fun u hu h3 => cH h3 fun cy hy h4 => ?_
  subst hy
  exact tkT_ok hv hu h4 st fa k
 ·refine aQ h2 fun u hu h3 => cH h3 fun cy hy h4 => ?_
  subst hy
  exact dpT_ok hv hu h4 st fa k
 ·refine aQ h2 fun u hu h3 => cH h3 fun cy hy h4 => aQ h4 fun u2 hu2 h5 => cH h5 fun cz hz h6 => ?_
  subst hy hz
  exact tdT_ok hv hu hu2 h6 st fa k
 exact h2.elim
def qop (P : Program) {A : Type} {R : A → Prop} (lk : Operand → Option SV) (s : S) (o : Op) (d : D P R) (K : SV → S → D P R → Tr) : Tr :=
 match o with
 | .move x => opt (lk x) fun v => K v s d
 | .assign x => opt (lk x) fun v => K v s d
 | .pick c a b => opt (lk c) fun vc => asC vc fun c => bl c d fun r d => opt (lk (cond r a b)) fun v => K v s d
 | .nilCheck x => opt (lk x) fun v => asC v fun c => match c with
  | .pt j b k o => K (one (.pt j b k o)) s d
  | _ => .no
 | .fieldAddr t x i => opt (lk x) fun v => asC v fun c => match c with
  | .pt j b k o => opt (fOff P t i) fun off => K (one (.pt j b k (o + off))) s d
  | _ => .no
 | .load t x => opt (lk x) fun v => asC v fun c => ldT P s t c fun v => K v s d
 | .indexAddr t x y => opt (lk x) fun v => asC v fun cx => opt (lk y) fun v => asC v fun cy => ixT P s t cx cy d K
 | .binOp b t x y _ => opt (lk x) fun vx => opt (lk y) fun vy => match vx, vy with
  | .on (.ce cx), .on (.ce cy) => nrm d fun d => match d with
   | .pb b' (x := x) (y := y) (z := z) _ k => .e0 b b' <| .e0 cx.val x <| .e0 cy.val y <| K (one (sc z)) s k
   | .pn t0 x r _ k => match b, y with
    | .neq, .const .nilIface => .e0 t t0 <| .e0 cx.val x <| K (one (.bo r)) s k
    | _, _ => .no
   | d => boT P b t cx cy d fun v d => K v s d
  | .on (.ag cs), .on (.ag ds) => nrm d fun d => match b, d with
   | .eql, .qe (cs := cs') (ds := ds') (t := t') (b := r) _ _ k => .e0 t t' <| .e0 (cs.map Sc.val) cs' <| .e0 (ds.map Sc.val) ds' <| K (one (.bo r)) s k
   | .neq, .qe (cs := cs') (ds := ds') (t := t') (b := r) _ _ k => .e0 t t' <| .e0 (cs.map Sc.val) cs' <| .e0 (ds.map Sc.val) ds' <| K (one (.bo (!r))) s k
   | _, _ => .no
  | _, _ => .no
 | .unOp .not _ x => opt (lk x) fun v => asC v fun c => match c with
  | .vl (.bool b) => K (one (.vl (.bool (!b)))) s d
  | .bo e => K (one (.bo (!e))) s d
  | _ => .no
 | .unOp u _ x => opt (lk x) fun v => asC v fun c => nrm d fun d => match d with
  | .pu u' (x := x) (z := z) _ k => .e0 u u' <| .e0 c.val x <| K (one (sc z)) s k
  | _ => .no
 | .convert t t' x => opt (lk x) fun v => asC v fun c => nrm d fun d => match d with
  | .pc (t := a) (t' := b) (x := x) (z := z) _ k => .e0 t a <| .e0 t' b <| .e0 c.val x <| K (one (sc z)) s k
  | .so bs k => match c with
   | .rf j h => opt (uH s j) fun q => .e0 h q.2.1 <| .e1 q.2.2 ⟨inferInstance, bs⟩ <| .e0 (P.underlying t) (some (.slice (elT0 P t))) <| .e0 (P.underlying (elT0 P t)) (some (.int .u8)) <| .e0 (P.underlying t') (some .string) <| K (one (.vl (.string ⟨bs.toArray⟩))) s k
   | _ => .no
  | _ => .no
 | .index t x y => opt (lk x) fun v => asC v fun cx => opt (lk y) fun v => asC v fun cy => nrm d fun d => match d with
  | .px (t := a) (x := x) (y := y) (z := z) _ k => .e0 t a <| .e0 cx.val x <| .e0 cy.val y <| K (one (sc z)) s k
  | _ => .no
 | .extract x i => opt (lk x) fun v => match v with
  | .tu l => opt (l[i]?) fun t => K (.on t) s d
  | _ => .no
 | .field t x i => opt (lk x) fun v => match v with
  | .on (.ag cs) => opt (fldU P t i cs) fun u => .e0 (fun W => (Instr.field t (.agg (cs.map Sc.val).toArray) i).run P W) (fun W => .ok u.val W) (K u s d)
  | _ => .no
 | .build t ps => opt (lkp lk ps.toList) fun vs => .e0 (fun W => (Instr.build t (vs.map fun p => (p.1, p.2.val)).toArray).run P W) (fun W => .ok (TV.ag (bldU P t vs (mU P t))).val W) (K (.on (.ag (bldU P t vs (mU P t)))) s d)
 | .slice t x lo hi mx => slT4 P lk s t x lo hi mx d K
 | .call ⟨.builtin .len, xs, ts⟩ => match xs.toList, ts.toList with
  | [x], [t] => opt (lk x) fun v => asC v fun c => lnT P s t c fun v => K v s d
  | _, _ => .no
 | .call ⟨.builtin .min, xs, ts⟩ => match xs.toList with
  | [x, y] => opt (lk x) fun v => asC v fun cx => opt (lk y) fun v => asC v fun cy => match cx, cy with
   | .vl (.int .i64 a), .vl (.int .i64 c) => K (one (.vl (I (min a c)))) s d
   | _, _ => .no
  | _ => .no
 | .call ⟨.builtin .max, xs, ts⟩ => match xs.toList with
  | [x, y] => opt (lk x) fun v => asC v fun cx => opt (lk y) fun v => asC v fun cy => match cx, cy with
   | .vl (.int .i64 a), .vl (.int .i64 c) => K (one (.vl (I (max a c)))) s d
   | _, _ => .no
  | _ => .no
 | .call ⟨.value (.func F), xs, _⟩ => clQ s lk F xs.toList d fun v d => K v s d
 | _ => .no
theorem pR {G : Prop} {lk : Operand → Option SV} {w0 W : World} {s : S} {o : Op} {d : D P R} {K : SV → S → D P R → Tr} (h : (qop P lk s o d K).holds) (st : St w0 W s.rs) (fa : Facts w0 W s.B)
  (k : ∀ v s' d', (K v s' d').holds → s'.E = s.E → s'.O = s.O → Facts w0 W s'.B → QS P lk o w0 W s.rs v → G) : G := by
 unfold qop at h
 split at h
 ·refine aQ h fun v hv h => k _ _ _ h rfl rfl fa ?_
  intro n f W' Q KK d ty pos af g hl hst hb hk
  exact aG (hl _ _ hv) (hk W' hst (Below.refl _ _))
 ·refine aQ h fun v hv h => k _ _ _ h rfl rfl fa ?_
  intro n f W' Q KK d ty pos af g hl hst hb hk
  exact aF (hl _ _ hv) (hk W' hst (Below.refl _ _))
 ·refine aQ h fun v hv h' => cH h' fun c hc h => aC4 h fun r d' hr h => aQ h fun u hu h => k _ _ _ h rfl rfl fa ?_
  subst hc
  intro n f W' Q KK d ty pos af g hl hst hb hk
  cases r with
  | true => exact nF ((hl _ _ hv).trans hr) (hl _ _ hu) (hk W' hst (Below.refl _ _))
  | false => exact gW ((hl _ _ hv).trans hr) (hl _ _ hu) (hk W' hst (Below.refl _ _))
 ·refine aQ h fun v hv h' => cH h' fun c hc h => ?_
  subst hc
  split at h
  ·refine k _ _ _ h rfl rfl fa ?_
   intro n f W' Q KK d ty pos af g hl hst hb hk
   exact nZ (hl _ _ hv) (hk W' hst (Below.refl _ _))
  exact h.elim
 ·refine aQ h fun v hv h' => cH h' fun c hc h => ?_
  subst hc
  split at h
  ·refine aQ h fun off ho h => k _ _ _ h rfl rfl fa ?_
   intro n f W' Q KK d ty pos af g hl hst hb hk
   refine bD (aB8 ho) (hl _ _ hv) ?_
   have := hk W' hst (Below.refl _ _)
   simp only [SV.val, TV.val, Sc.val, ← Nat.add_assoc] at this
   exact this
  exact h.elim
 ·refine aQ h fun v hv h' => cH h' fun c hc h => ?_
  subst hc
  exact ldT_ok hv h fa fun v h q => k _ _ _ h rfl rfl fa q
 ·refine aQ h fun v hv h' => cH h' fun c hc h => aQ h fun v2 hv2 h'' => cH h'' fun c2 hc2 h => ?_
  subst hc hc2
  exact ixT_ok hv hv2 h st fa k
 ·refine aQ h fun v hv h => aQ h fun v2 hv2 h => ?_
  split at h
  ·refine dU h fun d1 h1 => ?_
   split at h1
   ·obtain ⟨rfl, e1, e2, h6⟩ := h1
    refine k _ _ _ h6 rfl rfl fa ?_
    intro n f W' Q KK d ty pos af g hl hst hb hk
    refine (by assumption : BOk P _ _ _ _) ((hl _ _ hv).trans e1) ((hl _ _ hv2).trans e2) ?_
    have := hk W' hst (Below.refl _ _)
    rwa [show (one (sc _)).val = _ from jJ _] at this
   ·next t0 x0 r0 hN kk =>
    split at h1
    ·obtain ⟨rfl, e1, h6⟩ := h1
     refine k _ _ _ h6 rfl rfl fa ?_
     intro n f W' Q KK d ty pos af g hl hst hb hk
     exact hN ((hl _ _ hv).trans e1) (hk W' hst (Below.refl _ _))
    exact h1.elim
   exact boT_ok hv hv2 h1 fun v d h q => k _ _ _ h rfl rfl fa q
  ·refine dU h fun d' h => ?_
   split at h
   ·obtain ⟨rfl, rfl, rfl, h⟩ := h
    refine k _ _ _ h rfl rfl fa ?_
    intro n f W' Q KK d ty pos af g hl hst hb hk
    exact sG (by assumption) (by assumption) (hl _ _ hv) (hl _ _ hv2) (hk W' hst (Below.refl _ _))
   ·obtain ⟨rfl, rfl, rfl, h⟩ := h
    refine k _ _ _ h rfl rfl fa ?_
    intro n f W' Q KK d ty pos af g hl hst hb hk
    exact stp_aneq (by assumption) (by assumption) (hl _ _ hv) (hl _ _ hv2) (hk W' hst (Below.refl _ _))
   exact h.elim
  exact h.elim
 ·refine aQ h fun v hv h' => cH h' fun c hc h => ?_
  subst hc
  split at h
  ·refine k _ _ _ h rfl rfl fa ?_
   intro n f W' Q KK d ty pos af g hl hst hb hk
   exact wA (hl _ _ hv) (hk W' hst (Below.refl _ _))
  ·refine k _ _ _ h rfl rfl fa ?_
   intro n f W' Q KK d ty pos af g hl hst hb hk
   exact wA (hl _ _ hv) (hk W' hst (Below.refl _ _))
  exact h.elim
 ·refine aQ h fun v hv h' => cH h' fun c hc h => dU h fun d1 h1 => ?_
  subst hc
  split at h1
  ·obtain ⟨rfl, e1, h6⟩ := h1
   refine k _ _ _ h6 rfl rfl fa ?_
   intro n f W' Q KK d ty pos af g hl hst hb hk
   refine (by assumption : UOk P _ _ _) ((hl _ _ hv).trans e1) ?_
   have := hk W' hst (Below.refl _ _)
   rwa [show (one (sc _)).val = _ from jJ _] at this
  exact h1.elim
 ·refine aQ h fun v hv h' => cH h' fun c hc h => dU h fun d1 h1 => ?_
  subst hc
  split at h1
  ·obtain ⟨rfl, rfl, e1, h6⟩ := h1
   refine k _ _ _ h6 rfl rfl fa ?_
   intro n f W' Q KK d ty pos af g hl hst hb hk
   refine (by assumption : COk P _ _ _ _) ((hl _ _ hv).trans e1) ?_
   have := hk W' hst (Below.refl _ _)
   rwa [show (one (sc _)).val = _ from jJ _] at this
  ·split at h1
   ·refine aQ h1 fun q hq h2 => ?_
    obtain ⟨l, hd', dd⟩ := q
    obtain ⟨e1, e2, e3, e4, e5, h6⟩ := h2
    simp only at e1 e2
    subst e1 e2
    refine k _ _ _ h6 rfl rfl fa ?_
    intro n f W' Q KK d ty pos af g hl hst hb hk
    obtain ⟨fp, hs⟩ := jE hq hst (fa.up hb)
    cases l with
    | true => exact mF e3 e4 e5 (hl _ _ hv) (Sl.below hs hst.below) (Below.refl _ _) (hk W' hst (Below.refl _ _))
    | false => exact mF e3 e4 e5 (hl _ _ hv) hs (Below.refl _ _) (hk W' hst (Below.refl _ _))
   exact h1.elim
  exact h1.elim
 ·refine aQ h fun v hv h' => cH h' fun c hc h => aQ h fun v2 hv2 h'' => cH h'' fun c2 hc2 h => dU h fun d1 h1 => ?_
  subst hc hc2
  split at h1
  ·obtain ⟨rfl, e1, e2, h6⟩ := h1
   refine k _ _ _ h6 rfl rfl fa ?_
   intro n f W' Q KK d ty pos af g hl hst hb hk
   refine (by assumption : XOk P _ _ _ _) ((hl _ _ hv).trans e1) ((hl _ _ hv2).trans e2) ?_
   have := hk W' hst (Below.refl _ _)
   rwa [show (one (sc _)).val = _ from jJ _] at this
  exact h1.elim
 ·refine aQ h fun v hv h => ?_
  split at h
  ·next l =>
   refine aQ h fun t ht h => k _ _ _ h rfl rfl fa ?_
   intro n f W' Q KK d ty pos af g hl hst hb hk
   exact qH (hl _ _ hv) (v := t.val) (by simp [ht]) (hk W' hst (Below.refl _ _))
  exact h.elim
 ·refine aQ h fun v hv h => ?_
  split at h
  ·refine aQ h fun u hu h => k _ _ _ h.2 rfl rfl fa ?_
   intro n f W' Q KK d ty pos af g hl hst hb hk
   exact stp_fld (hl _ _ hv) (congrFun h.1 W') (hk W' hst (Below.refl _ _))
  exact h.elim
 ·next t ps =>
  refine aQ h fun vs hvs h => k _ _ _ h.2 rfl rfl fa ?_
  intro n f W' Q KK d ty pos af g hl hst hb hk
  have := stp_bld (P := P) (t := t) (d := d) (ty := ty) (pos := pos) (af := af) (g := g) (Q := Q) (K := KK) (yV hl hvs) (congrFun h.1 W') (hk W' hst (Below.refl _ _))
  simpa using this
 ·exact slT4_ok h st fa k
 ·next xs ts =>
  split at h
  ·next x t e1 e2 =>
   have e1 : xs = #[x] := by rw [← Array.toArray_toList (xs := xs), e1]
   have e2 : ts = #[t] := by rw [← Array.toArray_toList (xs := ts), e2]
   subst e1 e2
   refine aQ h fun v hv h' => cH h' fun c hc h => ?_
   subst hc
   exact lnT_ok hv h st fa fun v h q => k _ _ _ h rfl rfl fa q
  exact h.elim
 ·next xs ts =>
  split at h
  ·next x y e1 =>
   have e1 : xs = #[x, y] := by rw [← Array.toArray_toList (xs := xs), e1]
   subst e1
   refine aQ h fun v hv h' => cH h' fun c hc h => aQ h fun v2 hv2 h'' => cH h'' fun c2 hc2 h => ?_
   subst hc hc2
   split at h
   ·refine k _ _ _ h rfl rfl fa ?_
    intro n f W' Q KK d ty pos af g hl hst hb hk
    exact zX (hl _ _ hv) (hl _ _ hv2) (hk W' hst (Below.refl _ _))
   exact h.elim
  exact h.elim
 ·next xs ts =>
  split at h
  ·next x y e1 =>
   have e1 : xs = #[x, y] := by rw [← Array.toArray_toList (xs := xs), e1]
   subst e1
   refine aQ h fun v hv h' => cH h' fun c hc h => aQ h fun v2 hv2 h'' => cH h'' fun c2 hc2 h => ?_
   subst hc hc2
   split at h
   ·refine k _ _ _ h rfl rfl fa ?_
    intro n f W' Q KK d ty pos af g hl hst hb hk
    exact stp_max (hl _ _ hv) (hl _ _ hv2) (hk W' hst (Below.refl _ _))
   exact h.elim
  exact h.elim
 ·next F xs ts =>
  refine clQ_ok (ats := ts) h st fa fun v d h q => k _ _ _ h rfl rfl fa ?_
  intro n f W' Q KK d ty pos af g hl hst hb hk
  have := q (n := n) (f := f) (W' := W') (Q := Q) (KK := KK) (d := d) (ty := ty) (pos := pos) (af := af) (g := g) hl hst hb hk
  simpa using this
 exact h.elim
end
end Go.Proofs.YtanpcpoogkdlaaaGreat
namespace Go.Proofs.YtanpcpoogkdlaaaGreat
set_option linter.unusedSimpArgs false
set_option linter.unusedVariables false
set_option maxHeartbeats 1000000
set_option maxHeartbeats 2000000
open Go.RowKit Go.Proofs.Tryz List

/-! ### What is owned, by its number -/
def Or (O : List (Nat × Ob)) : List Res := O.map fun p => p.2.res
def dI : List (Nat × Ob) → Nat → List (Nat × Ob)
 | [], _ => []
 | (t, v) :: O, x => cond (Nat.beq x t) O ((t, v) :: dI O x)
theorem vQ : ∀ {O : List (Nat × Ob)} {j : Nat} {o : Ob}, lku O j = some o → (o.res :: Or (dI O j)).Perm (Or O)
 | [], _, _, h => by cases h
 | (t, v) :: O, x, o, h => by
  unfold lku at h
  unfold dI
  cases hb : Nat.beq x t with
  | true => rw [hb] at h; simp only [cond_true, Option.some.injEq] at h; subst h; exact List.Perm.refl _
  | false =>
   rw [hb] at h
   exact (List.Perm.swap _ _ _).trans ((vQ (O := O) h).cons _)
theorem St.take {w0 W : World} {O : List (Nat × Ob)} {j : Nat} {o : Ob} {rs : List Res} (h : St w0 W (Or O ++ rs)) (hj : lku O j = some o) : St w0 W (o.res :: (Or (dI O j) ++ rs)) :=
 h.perm ((vQ hj).append_right rs)
theorem St.pc_cs {α : Type} (i : Dsh α) {w0 W : World} {cs : List Value} {x : α} {fp : List Nat} {rs : List Res} (h : St w0 W (Res.pc cs (i.lv x) fp :: rs)) (hg : i.good x) : St w0 W (@Res.cs α i.toShape cs x fp :: rs) :=
 h.trade1 rfl (fun h => ⟨i.inn hg h.1, h.2⟩)
theorem St.cs_pc {α : Type} (i : Dsh α) {w0 W : World} {cs : List Value} {x : α} {fp : List Nat} {rs : List Res} (h : St w0 W (@Res.cs α i.toShape cs x fp :: rs)) : St w0 W (Res.pc cs (i.lv x) fp :: rs) ∧ i.good x :=
 ⟨h.trade1 rfl (fun h => ⟨(i.out h.1).2, h.2⟩), (i.out (h.get 0 rfl).1).1⟩
theorem St.pc_nil {w0 W : World} {rs : List Res} (h : St w0 W rs) : St w0 W (Res.pc [] [] [] :: rs) :=
 h.trade (rs1 := []) (rs2 := [Res.pc [] [] []]) (show ([] : List Nat).Nodup from nodup_nil) (fun b hb => absurd (show b ∈ ([] : List Nat) from hb) (by simp)) (by intro r hr; simp at hr; subst hr; exact ⟨rfl, by simp⟩)
theorem St.pc_v {w0 W : World} {rs : List Res} {cs : List Value} {ls : List Lf} {fp : List Nat} {x : Value} (h : St w0 W (Res.pc cs ls fp :: rs)) : St w0 W (Res.pc (x :: cs) (.v x :: ls) fp :: rs) :=
 h.trade1 rfl (fun h => ⟨⟨rfl, h.1⟩, h.2⟩)
theorem St.pc_n {β : Type} {i : Shape β} {w0 W : World} {rs : List Res} {cs : List Value} {ls : List Lf} {fp : List Nat} (h : St w0 W (Res.pc cs ls fp :: rs)) : St w0 W (Res.pc (.slice none 0 0 :: cs) (.s β i [] :: ls) fp :: rs) :=
 h.trade1 rfl (fun h => ⟨⟨[], fp, nil_Sl, h.1, rfl⟩, h.2⟩)
theorem St.pc_s {β : Type} {i : Shape β} {w0 W : World} {rs : List Res} {cs : List Value} {ls : List Lf} {fp f1 : List Nat} {v : Value} {ys : List β} (h : St w0 W (Res.pc cs ls fp :: Res.own v ys f1 :: rs)) : St w0 W (Res.pc (v :: cs) (.s β i ys :: ls) (f1 ++ fp) :: rs) := by
 refine St.trade (rs1 := [Res.pc cs ls fp, Res.own v ys f1]) (rs2 := [Res.pc (v :: cs) (.s β i ys :: ls) (f1 ++ fp)]) h ?_ ?_ ?_
 ·have hn := h.nodup
  simp only [flatMap_cons] at hn
  rw [← append_assoc, nodup_append] at hn
  have h2 : (fp ++ f1).Nodup := hn.1
  simp only [flatMap_cons, flatMap_nil, append_nil]
  exact (perm_append_comm.nodup_iff).1 h2
 ·intro b hb
  simp only [flatMap_cons, flatMap_nil, append_nil, Res.pc, Res.own, mem_append] at hb ⊢
  exact hb.symm
 intro r hr
 simp only [mem_singleton] at hr
 subst hr
 have h1 := h.get 0 rfl
 have h2 := h.get 1 rfl
 refine ⟨⟨f1, fp, aS h2, h1.1, rfl⟩, fun b hb => ?_⟩
 rcases mem_append.1 hb with hb | hb
 ·exact h2.2 b hb
 exact h1.2 b hb
theorem St.s_pc {β : Type} {i : Shape β} {w0 W : World} {rs : List Res} {cs : List Value} {ls : List Lf} {fp : List Nat} {v : Value} {ys : List β} (h : St w0 W (Res.pc (v :: cs) (.s β i ys :: ls) fp :: rs)) : ∃ f1 f2, St w0 W (Res.pc cs ls f2 :: Res.own v ys f1 :: rs) := by
 obtain ⟨⟨f1, f2, h1, h2, rfl⟩, hw⟩ := h.get 0 rfl
 refine ⟨f1, f2, St.trade (rs1 := [Res.pc (v :: cs) (.s β i ys :: ls) (f1 ++ f2)]) (rs2 := [Res.pc cs ls f2, Res.own v ys f1]) h ?_ ?_ ?_⟩
 ·have hn := h.nodup
  simp only [flatMap_cons] at hn
  rw [nodup_append] at hn
  have h3 : (f1 ++ f2).Nodup := hn.1
  simp only [flatMap_cons, flatMap_nil, append_nil]
  exact (perm_append_comm.nodup_iff).1 h3
 ·intro b hb
  simp only [flatMap_cons, flatMap_nil, append_nil, Res.pc, Res.own, mem_append] at hb ⊢
  exact hb.symm
 intro r hr
 rcases mem_cons.1 hr with rfl | hr
 ·exact ⟨h2, fun b hb => hw b (mem_append_right _ hb)⟩
 simp only [mem_singleton] at hr
 subst hr
 exact ⟨h1.v, fun b hb => hw b (mem_append_left _ hb)⟩
theorem St.v_pc {w0 W : World} {rs : List Res} {cs : List Value} {ls : List Lf} {fp : List Nat} {v x : Value} (h : St w0 W (Res.pc (v :: cs) (.v x :: ls) fp :: rs)) : v = x ∧ St w0 W (Res.pc cs ls fp :: rs) :=
 ⟨(h.get 0 rfl).1.1, h.trade1 rfl (fun h => ⟨h.1.2, h.2⟩)⟩
theorem St.swap {w0 W : World} {a b : Res} {rs : List Res} (h : St w0 W (a :: b :: rs)) : St w0 W (b :: a :: rs) := h.perm (List.Perm.swap _ _ _)

section
variable {P : Program} {A : Type} {R : A → Prop}
def iQ : List (Nat × Ob) → List Sc → List Lf → (List (Nat × Ob) → Tr) → Tr
 | O, [], [], K => K O
 | O, c :: cs, .v u :: ls, K => .e0 c.val u (iQ O cs ls K)
 | O, c :: cs, .s _ i ys :: ls, K => match c with
  | .rf j h => match lku O j with
   | some (.own i' h' xs _) => .e0 h h' (.e1 (⟨i', xs⟩ : Dat) ⟨i, ys⟩ (iQ (dI O j) cs ls K))
   | some (.row i' _ h' xs _) => .e0 h h' (.e1 (⟨i', xs⟩ : Dat) ⟨i, ys⟩ (iQ (dI O j) cs ls K))
   | _ => .no
  | .vl (.slice none 0 0) => .e1 (⟨i, []⟩ : Dat) ⟨i, ys⟩ (iQ O cs ls K)
  | _ => .no
 | _, _, _, _ => .no
theorem eG {G : Prop} {w0 W : World} : ∀ {cs : List Sc} {ls : List Lf} {O : List (Nat × Ob)} {K : List (Nat × Ob) → Tr} {rs : List Res}, (iQ O cs ls K).holds → St w0 W (Or O ++ rs) →
  (∀ O' fp, (K O').holds → St w0 W (Res.pc (cs.map Sc.val) ls fp :: (Or O' ++ rs)) → G) → G
 | [], [], O, K, rs, h, st, k => k O [] h st.pc_nil
 | c :: cs, .v u :: ls, O, K, rs, h, st, k => by
  obtain ⟨rfl, h⟩ := h
  exact eG h st fun O' fp h' st' => k O' fp h' st'.pc_v
 | c :: cs, .s β i ys :: ls, O, K, rs, h, st, k => by
  unfold iQ at h
  split at h
  ·next j hd =>
   split at h
   ·next i' h' xs fp hj =>
    obtain ⟨rfl, h2, h⟩ := h
    simp only [Dat.mk.injEq] at h2
    obtain ⟨rfl, h2, h3⟩ := h2
    obtain ⟨rfl, rfl⟩ := And.intro (eq_of_heq h2) (eq_of_heq h3)
    have st2 : St w0 W (Or (dI O j) ++ (Res.own hd.val xs fp :: rs)) := (st.take hj).perm perm_middle
    refine eG h st2 fun O' fp' h' st' => k O' _ h' (St.pc_s (f1 := fp) (fp := fp') (st'.perm ?_))
    exact (perm_middle.symm).cons _
   ·next i' te h' xs fe hj =>
    obtain ⟨rfl, h2, h⟩ := h
    simp only [Dat.mk.injEq] at h2
    obtain ⟨rfl, h2, h3⟩ := h2
    obtain ⟨rfl, rfl⟩ := And.intro (eq_of_heq h2) (eq_of_heq h3)
    obtain ⟨fp, st1⟩ := St.shut (st.take hj)
    have st2 : St w0 W (Or (dI O j) ++ (Res.own hd.val xs fp :: rs)) := st1.perm perm_middle
    refine eG h st2 fun O' fp' h' st' => k O' _ h' (St.pc_s (f1 := fp) (fp := fp') (st'.perm ?_))
    exact (perm_middle.symm).cons _
   ·exact h.elim
  ·obtain ⟨h2, h⟩ := h
   simp only [Dat.mk.injEq, heq_eq_eq, true_and] at h2
   subst h2
   exact eG h st fun O' fp h' st' => k O' fp h' st'.pc_n
  ·exact h.elim
 | [], .v _ :: _, _, _, _, h, _, _ => h.elim
 | [], .s _ _ _ :: _, _, _, _, h, _, _ => h.elim
 | _ :: _, [], _, _, _, h, _, _ => h.elim
def tL : List Lf → S → (List Sc → S → Tr) → Tr
 | [], s, K => K [] s
 | .v x :: ls, s, K => tL ls s fun cs s => K (sc x :: cs) s
 | .s _ i ys :: ls, s, K => .fn fun g : Hd × List Nat => tL ls ⟨s.E, (s.nx, .own i g.1 ys g.2) :: s.O, s.B, s.nx + 1⟩ fun cs s' => K (.rf s.nx g.1 :: cs) s'
theorem jV {G : Prop} {w0 W : World} {rs : List Res} : ∀ {ls : List Lf} {s : S} {K : List Sc → S → Tr} {cs : List Value} {fp : List Nat}, (tL ls s K).holds → St w0 W (Res.pc cs ls fp :: (rs ++ s.rs)) →
  (∀ scs s', (K scs s').holds → scs.map Sc.val = cs → s'.E = s.E → s'.B = s.B → (∃ N, s'.O = N ++ s.O) → St w0 W (rs ++ s'.rs) → lns ls → G) → G
 | [], s, K, [], fp, h, st, k => k [] s h rfl rfl rfl ⟨[], rfl⟩ st.d0 trivial
 | [], s, K, c :: cs, fp, h, st, k => (st.get 0 rfl).1.elim
 | .v x :: ls, s, K, [], fp, h, st, k => (st.get 0 rfl).1.elim
 | .s _ _ _ :: ls, s, K, [], fp, h, st, k => (st.get 0 rfl).1.elim
 | .v x :: ls, s, K, c :: cs, fp, h, st, k => by
  obtain ⟨e0, st2⟩ := st.v_pc
  subst e0
  refine jV (K := fun cs s => K (sc c :: cs) s) h st2 fun scs s' h' e1 e2 e3 e4 st' hl => k _ s' h' ?_ e2 e3 e4 st' hl
  rw [map_cons, jJ, e1]
 | .s _ i ys :: ls, s, K, c :: cs, fp, h, st, k => by
  obtain ⟨f1, f2, st⟩ := st.s_pc
  have hs := aS (st.get 1 rfl)
  obtain ⟨hd, rfl, hn⟩ := hs.hd
  refine jV (K := fun cs s' => K (.rf s.nx hd :: cs) s') (h (hd, f1)) (rs := rs) (st.perm ((perm_middle (a := Res.own hd.val ys f1) (l₁ := rs) (l₂ := s.rs)).cons _)) fun scs s' h' e1 e2 e3 e4 st' hl => k _ s' h' ?_ e2 e3 (e4.elim fun N hN => ⟨N ++ [(s.nx, .own i hd ys f1)], by rw [hN]; simp⟩) st' ⟨?_, hl⟩
  ·rw [map_cons, e1]; rfl
  ·exact hs.len_le
end
end Go.Proofs.YtanpcpoogkdlaaaGreat
namespace Go.Proofs.YtanpcpoogkdlaaaGreat
set_option linter.unusedSimpArgs false
set_option linter.unusedVariables false
set_option maxHeartbeats 1000000
set_option maxHeartbeats 2000000
open Go.RowKit Go.Proofs.Tryz List

section
variable {P : Program} {A : Type} {R : A → Prop}
def uI {α : Type u} : List α → Nat → List α → List α
 | C, 0, [] => C
 | _ :: C, 0, v :: vs => v :: uI C 0 vs
 | c :: C, n + 1, vs => c :: uI C n vs
 | [], _, _ => []
theorem oH : ∀ (C : List Sc) (o : Nat) (vs : List Sc), (uI C o vs).map Sc.val = cI (C.map Sc.val) o (vs.map Sc.val)
 | C, 0, [] => by cases C <;> rfl
 | _ :: C, 0, v :: vs => by
  show v.val :: (uI C 0 vs).map Sc.val = v.val :: cI (C.map Sc.val) 0 (vs.map Sc.val)
  rw [oH C 0 vs]
 | c :: C, n + 1, vs => by
  show c.val :: (uI C n vs).map Sc.val = c.val :: cI (C.map Sc.val) n (vs.map Sc.val)
  rw [oH C n vs]
 | [], 0, v :: vs => rfl
 | [], n + 1, vs => rfl
theorem tV {w0 W : World} {b : Nat} {zs : List Sc} {t : TypeId} {rs : List Res} (h : St w0 W (Res.bx b (zs.map Sc.val) t :: rs)) : St w0 W ((Ob.bx b [] zs [] t).res :: rs) := by
 simpa [Ob.res] using h
def newB (s : S) (zs : List Sc) (t : TypeId) (b : Nat) : S := ⟨s.E, (s.nx, .bx b [] zs [] t) :: s.O, s.B, s.nx + 1⟩
def alT (P : Program) (s : S) (t : TypeId) (K : SV → S → Tr) : Tr :=
 .e0 (((P.info? t).bind (·.zero)).map (·.cells.toList)) (some ((mU P t).map Sc.val)) (.fn fun b : Nat => K (one (.pt s.nx b 0 0)) (newB s (mU P t) t b))
theorem alT_ok {w0 W : World} {s : S} {t : TypeId} {K : SV → S → Tr} {n : Nat} {f : Nat → Value} {Q : Exit → Act → World → Prop} {KK : Value → World → Prop} {d : Option Tmp} {ty : TypeId} {pos : String} {af : Array Go.Edge} {g : Option (Nat × Bool)}
  (h : (alT P s t K).holds) (st : St w0 W s.rs) (fa : Facts w0 W s.B) (k : ∀ v s' W', (K v s').holds → s'.E = s.E → (∃ N, s'.O = N ++ s.O) → Below W.heap.size W W' → St w0 W' s'.rs → Facts w0 W' s'.B → KK v.val W') : Stp P n ⟨d, .alloc t, ty, pos, af, g⟩ f W Q KK := by
 obtain ⟨h1, h⟩ := h
 exact bO h1 st fun b W' hb st' => k _ _ W' (h b) rfl ⟨[_], rfl⟩ hb (tV st') (fa.up hb)
def bxT (s : S) (t : TypeId) (v : SV) (K : SV → S → Tr) : Tr :=
 match v with
 | .on (.ce c) => .e0 c.val.cells #[c.val] (.fn fun b : Nat => K (one (.pt s.nx b 0 0)) (newB s [c] t b))
 | .on (.ag l) => .fn fun b : Nat => K (one (.pt s.nx b 0 0)) (newB s l t b)
 | _ => .no
theorem bxT_ok {w0 W : World} {s : S} {t : TypeId} {x : Operand} {v : SV} {K : SV → S → Tr} {n : Nat} {f : Nat → Value} {Q : Exit → Act → World → Prop} {KK : Value → World → Prop} {d : Option Tmp} {ty : TypeId} {pos : String} {af : Array Go.Edge} {g : Option (Nat × Bool)}
  (hx : ev n f x = v.val) (h : (bxT s t v K).holds) (st : St w0 W s.rs) (fa : Facts w0 W s.B) (k : ∀ v s' W', (K v s').holds → s'.E = s.E → (∃ N, s'.O = N ++ s.O) → Below W.heap.size W W' → St w0 W' s'.rs → Facts w0 W' s'.B → KK v.val W') : Stp P n ⟨d, .box t x, ty, pos, af, g⟩ f W Q KK := by
 unfold bxT at h
 split at h
 ·obtain ⟨h1, h⟩ := h
  exact lM hx h1 st fun b W' hb st' => k _ _ W' (h b) rfl ⟨[_], rfl⟩ hb (tV st') (fa.up hb)
 ·exact aI hx st fun b W' hb st' => k _ _ W' (h b) rfl ⟨[_], rfl⟩ hb (tV st') (fa.up hb)
 exact h.elim
def bsU (k : Nat) : List (Nat × SV) → List Sc → List Sc
 | [], cs => cs
 | (i, v) :: ps, cs => bsU k ps (uI cs (i * k) (tvC v))
def reps {α : Type u} (l : List α) : Nat → List α
 | 0 => []
 | n + 1 => l ++ reps l n
def elT (P : Program) (t : Nat) : Nat :=
 match P.underlying t with
 | some (.slice e) => e
 | _ => 0
def bsT (P : Program) {A : Type} {R : A → Prop} (s : S) (t : TypeId) (len : Nat) (vs : List (Nat × SV)) (d : D P R) (K : SV → S → D P R → Tr) : Tr :=
 let cs := bsU (mU P (elT P t)).length vs (reps (mU P (elT P t)) len)
 .e0 (fun W => (Instr.buildSlice t len (vs.map fun p => (p.1, p.2.val)).toArray).run P W) (fun W => .ok (.slice (some ⟨W.heap.size, 0, none⟩) len len) (W.alloc (.cells (cs.map Sc.val).toArray (elT P t)))) <|
  match len with
  | 0 => nrm d fun d => match d with
   | .em i k => .e0 (cs.map Sc.val) [] <| .fn fun b : Nat => K (one (.rf s.nx ⟨some ⟨b, 0, none⟩, 0, 0⟩)) ⟨s.E, (s.nx, .row i (elT P t) ⟨some ⟨b, 0, none⟩, 0, 0⟩ [] []) :: s.O, s.B, s.nx + 1⟩ k
   | _ => .no
  | n + 1 => .fn fun b : Nat => K (one (.lt s.nx b (n + 1))) (newB s cs (elT P t) b) d
theorem bsT_ok {w0 W : World} {s : S} {t : TypeId} {len : Nat} {ps : List (Nat × Operand)} {vs : List (Nat × SV)} {dd : D P R} {K : SV → S → D P R → Tr} {n : Nat} {f : Nat → Value} {Q : Exit → Act → World → Prop} {KK : Value → World → Prop} {d : Option Tmp} {ty : TypeId} {pos : String} {af : Array Go.Edge} {g : Option (Nat × Bool)}
  (hx : ps.map (fun (i, x) => (i, ev n f x)) = vs.map fun p => (p.1, p.2.val)) (h : (bsT P s t len vs dd K).holds) (st : St w0 W s.rs) (fa : Facts w0 W s.B) (k : ∀ v s' d' W', (K v s' d').holds → s'.E = s.E → (∃ N, s'.O = N ++ s.O) → Below W.heap.size W W' → St w0 W' s'.rs → Facts w0 W' s'.B → KK v.val W') : Stp P n ⟨d, .buildSlice t len ps.toArray, ty, pos, af, g⟩ f W Q KK := by
 obtain ⟨h1, h⟩ := h
 cases len with
 | zero =>
  refine dU h fun d' h => ?_
  split at h
  ·next i kk =>
   obtain ⟨h2, h⟩ := h
   refine aW hx (congrFun h1 W) st fun b W' hb st' => k _ _ _ W' (h b) rfl ⟨[_], rfl⟩ hb ?_ (fa.up hb)
   rw [h2] at st'
   exact st'.row_empty
  exact h.elim
 | succ m => exact aW hx (congrFun h1 W) st fun b W' hb st' => k _ _ _ W' (h b) rfl ⟨[_], rfl⟩ hb (tV st') (fa.up hb)
def mkT (P : Program) (s : S) (t : TypeId) (c cy : Sc) (K : SV → S → Tr) : Tr :=
 match c with
 | .vl (.int .i64 (.ofNat m)) => .e0 cy.val c.val <| .e0 (P.underlying t) (some (.slice (elT P t))) <|
   opt ((P.info? (elT P t)).bind fun i => i.zero.map fun z => (i.size, i.bytes, z.cells)) fun q => .e0 (Nat.ble m 67108864) true <| .e0 (Nat.ble (m * q.2.1) 140737488355328) true <| .e0 (madeCells q.2.2 (m * q.1)).toList ((reps (mU P (elT P t)) m).map Sc.val) <|
   .fn fun b : Nat => K (one (.lt s.nx b m)) (newB s (reps (mU P (elT P t)) m) (elT P t) b)
 | _ => .no
theorem mkT_ok {w0 W : World} {s : S} {t : TypeId} {x y : Operand} {c cy : Sc} {K : SV → S → Tr} {n : Nat} {f : Nat → Value} {Q : Exit → Act → World → Prop} {KK : Value → World → Prop} {d : Option Tmp} {ty : TypeId} {pos : String} {af : Array Go.Edge} {g : Option (Nat × Bool)}
  (hx : ev n f x = c.val) (hy : ev n f y = cy.val) (h : (mkT P s t c cy K).holds) (st : St w0 W s.rs) (fa : Facts w0 W s.B) (k : ∀ v s' W', (K v s').holds → s'.E = s.E → (∃ N, s'.O = N ++ s.O) → Below W.heap.size W W' → St w0 W' s'.rs → Facts w0 W' s'.B → KK v.val W') : Stp P n ⟨d, .makeSlice t x y, ty, pos, af, g⟩ f W Q KK := by
 unfold mkT at h
 split at h
 ·next m =>
  obtain ⟨h1, h2, h⟩ := h
  refine aQ h fun q hq h => ?_
  obtain ⟨h3, h4, h5, h⟩ := h
  obtain ⟨i, hi, hq⟩ := Option.bind_eq_some_iff.1 hq
  obtain ⟨z, hz, rfl⟩ := Option.map_eq_some_iff.1 hq
  have h3 := Nat.le_of_ble_eq_true h3
  have h4 := Nat.le_of_ble_eq_true h4
  have hb' : (m : Int) * (i.bytes : Int) ≤ 140737488355328 := by have := Int.ofNat_le.2 h4; rw [Int.natCast_mul] at this; exact this
  have hmk := run_make (P := P) W t (elT P t) i z h2 hi hz .i64 .i64 m m aC aC (by rw [Int.mul_comm]; omega) aC
  rw [Int.toNat_natCast] at hmk
  have hx' : ev n f x = .int .i64 (m : Int) := hx
  have hy' : ev n f y = .int .i64 (m : Int) := hy.trans h1
  refine Stp.run (v := .slice (some ⟨W.heap.size, 0, none⟩) m m) (W' := W.alloc (.cells (madeCells z.cells (m * i.size)) (elT P t))) (by simp only [execOp, hx', hy', Sem.run_bind, hmk, Result.andThen_ok]; rfl) ?_
  have hst := st.alloc (madeCells z.cells (m * i.size)).toList (elT P t)
  rw [Array.toArray_toList] at hst
  have h5 : (madeCells z.cells (m * i.size)).toList = (reps (mU P (elT P t)) m).map Sc.val := h5
  rw [h5] at hst
  have hbl : Below W.heap.size W (W.alloc (.cells (madeCells z.cells (m * i.size)) (elT P t))) := eK (Below.refl _ _)
  exact k _ _ _ (h W.heap.size) rfl ⟨[_], rfl⟩ hbl (tV hst) (fa.up hbl)
 exact h.elim
def stT (P : Program) (s : S) (t : TypeId) (c : Sc) (v : SV) (K : S → Tr) : Tr :=
 match c with
 | .pt j b k o => match lku s.O j with
  | some (.bx b' pre cs post t') => .e0 b b' <| .e0 k pre.length <| .e0 ((P.info? t).map (·.size)) (some (tvC v).length) <| .e0 (Nat.ble (o + (tvC v).length) cs.length) true <| .e0 ((tvC v).all fun c => c.val.oneCell') true <|
    match v with
    | .on (.ce u) => .e0 u.val.cells #[u.val] (K ⟨s.E, (j, .bx b' pre (uI cs o (tvC v)) post t') :: dI s.O j, lasting s.B, s.nx⟩)
    | .on (.ag _) => K ⟨s.E, (j, .bx b' pre (uI cs o (tvC v)) post t') :: dI s.O j, lasting s.B, s.nx⟩
    | _ => .no
  | _ => .no
 | _ => .no
theorem stT_ok {w0 W : World} {s : S} {t : TypeId} {x y : Operand} {c : Sc} {v : SV} {K : S → Tr} {n : Nat} {f : Nat → Value} {Q : Exit → Act → World → Prop} {KK : Value → World → Prop} {d : Option Tmp} {ty : TypeId} {pos : String} {af : Array Go.Edge} {g : Option (Nat × Bool)}
  (hx : ev n f x = c.val) (hy : ev n f y = v.val) (h : (stT P s t c v K).holds) (st : St w0 W s.rs) (fa : Facts w0 W s.B) (k : ∀ s' W', (K s').holds → s'.E = s.E → St w0 W' s'.rs → Facts w0 W' s'.B → KK undef W') : Stp P n ⟨d, .store t x y, ty, pos, af, g⟩ f W Q KK := by
 unfold stT at h
 split at h
 ·split at h
  ·next hj =>
   obtain ⟨rfl, rfl, h1, h2, h3, h⟩ := h
   have st2 := St.take (rs := []) (by simpa [Or, S.rs] using st) hj
   simp only [append_nil] at st2
   replace h2 := Nat.le_of_ble_eq_true h2
   rw [all_eq_true] at h3
   split at h
   ·next u =>
    obtain ⟨h4, h⟩ := h
    have h5 := h3 u (by simp [tvC])
    refine bB (i := _) h1 hx hy h4 h5 st2 rfl (by simpa [tvC] using h2) rfl fun W' st' => k _ W' h rfl ?_ fa.lasting
    show St w0 W' (Res.bx _ (_ ++ (uI _ _ [u]).map Sc.val ++ _) _ :: _)
    rw [oH]
    exact st'
   ·next l =>
    refine stp_store_bps (cs := l.map Sc.val) (i := _) (by simpa [tvC] using h1) hx hy ?_ st2 rfl (by simpa [tvC] using h2) rfl fun W' st' => k _ W' h rfl ?_ fa.lasting
    ·intro v hv
     obtain ⟨c, hc, rfl⟩ := mem_map.1 hv
     exact h3 c hc
    show St w0 W' (Res.bx _ (_ ++ (uI _ _ l).map Sc.val ++ _) _ :: _)
    rw [oH]
    exact st'
   exact h.elim
  exact h.elim
 exact h.elim
/-! ### Calls -/
def rkb : List Rk → S → (List TV → S → Tr) → Tr
 | [], s, K => K [] s
 | .v x :: ks, s, K => rkb ks s fun ts s => K (.ce (sc x) :: ts) s
 | .sl i xs :: ks, s, K => .fn fun g : Hd × List Nat => rkb ks ⟨s.E, (s.nx, .own i g.1 xs g.2) :: s.O, s.B, s.nx + 1⟩ fun ts s' => K (.ce (.rf s.nx g.1) :: ts) s'
 | .own i x :: ks, s, K => tL (i.lv x) s fun cs s => rkb ks s fun ts s => K (.ag cs :: ts) s
theorem pP {G : Prop} {w0 W : World} : ∀ {ks : List Rk} {s : S} {K : List TV → S → Tr} {vs : List Value} {rs : List Res}, (rkb ks s K).holds → Rks vs ks rs → St w0 W (rs ++ s.rs) →
  (∀ ts s', (K ts s').holds → ts.map TV.val = vs → s'.E = s.E → s'.B = s.B → (∃ N, s'.O = N ++ s.O) → St w0 W s'.rs → gds ks → G) → G
 | [], s, K, [], rs, h, hr, st, k => by
  have hr : rs = [] := hr
  subst hr
  exact k [] s h rfl rfl rfl ⟨[], rfl⟩ st trivial
 | [], s, K, v :: vs, rs, h, hr, st, k => hr.elim
 | .v x :: ks, s, K, [], rs, h, hr, st, k => hr.elim
 | .sl _ _ :: ks, s, K, [], rs, h, hr, st, k => hr.elim
 | .own _ _ :: ks, s, K, [], rs, h, hr, st, k => hr.elim
 | .v x :: ks, s, K, v :: vs, rs, h, hr, st, k => by
  obtain ⟨r1, r2, ⟨rfl, rfl⟩, h2, rfl⟩ := hr
  refine pP (K := fun ts s => K (.ce (sc v) :: ts) s) h h2 st fun ts s' h' e1 e2 e3 e4 st' hg => k _ s' h' ?_ e2 e3 e4 st' hg
  rw [map_cons, e1, TV.val, jJ]
 | .sl i xs :: ks, s, K, v :: vs, rs, h, hr, st, k => by
  obtain ⟨r1, r2, ⟨fp, rfl⟩, h2, rfl⟩ := hr
  have hs := aS (st.get 0 rfl)
  obtain ⟨hd, rfl, hn⟩ := hs.hd
  refine pP (K := fun ts s' => K (.ce (.rf s.nx hd) :: ts) s') (h (hd, fp)) h2 ?_ fun ts s' h' e1 e2 e3 e4 st' hg => k _ s' h' ?_ e2 e3 (e4.elim fun N hN => ⟨N ++ [(s.nx, .own i hd xs fp)], by rw [hN]; simp⟩) st' ⟨hs.len_le, hg⟩
  ·exact st.perm (perm_middle (a := Res.own hd.val xs fp) (l₁ := r2) (l₂ := s.rs))
  ·rw [map_cons, e1]; rfl
 | .own i x :: ks, s, K, v :: vs, rs, h, hr, st, k => by
  obtain ⟨r1, r2, ⟨cs, fp, rfl, rfl⟩, h2, rfl⟩ := hr
  obtain ⟨st1, hg1⟩ := St.cs_pc i st
  refine jV (K := fun cs s => rkb ks s fun ts s => K (.ag cs :: ts) s) h st1 fun scs s1 h1 e1 e2 e3 g1 st2 hl => (pP (K := fun ts s => K (.ag scs :: ts) s) h1 h2 st2 fun ts s' h' e4 e5 e6 g2 st' hg => k _ s' h' ?_ (e5.trans e2) (e6.trans e3) (g1.elim fun N hN => g2.elim fun M hM => ⟨M ++ N, by rw [hM, hN, append_assoc]⟩) st' ⟨⟨hg1, hl⟩, hg⟩)
  rw [map_cons, e4, TV.val, e1]
def tups : List TV → SV
 | [t] => .on t
 | ts => .tu ts
theorem rY (ts : List TV) : (tups ts).val = wE (ts.map TV.val) := by
 match ts with
 | [] => rfl
 | [t] => rfl
 | _ :: _ :: _ => rfl
def clT (s : S) (lk : Operand → Option SV) (F : FuncId) (xs : List Operand) (d : D P R) (K : SV → S → D P R → Tr) : Tr :=
 nrm d fun d => match d with
  | .cq (ps := ps) (rk := rk) (G := G) F' (fn := fn) _ _ _ k => .e0 F F' <| .e0 ((fn.name == "runtime.NumGoroutine") || fn.body.isNone) false <| opt (lkv lk xs) fun us => mZ s us ps <| grT s G <| rkb rk s fun ts s' => .fp (gds rk) fun hg => K (tups ts) s' (k hg)
  | .cl (ps := ps) (R' := R') (rk := rk) (G := G) F' (fn := fn) _ _ _ k => .e0 F F' <| .e0 ((fn.name == "runtime.NumGoroutine") || fn.body.isNone) false <| opt (lkv lk xs) fun us => mZ s us ps <| grT s G <| .fn fun a => .fp (R' a) fun ha => rkb (rk a) s fun ts s' => .fp (gds (rk a)) fun hg => K (tups ts) s' (k a ha hg)
  | _ => .no
theorem clT_ok {w0 W : World} {s : S} {lk : Operand → Option SV} {F : FuncId} {xs : List Operand} {ats : Array TypeId} {dd : D P R} {K : SV → S → D P R → Tr} {n : Nat} {f : Nat → Value} {Q : Exit → Act → World → Prop} {KK : Value → World → Prop} {d : Option Tmp} {ty : TypeId} {pos : String} {af : Array Go.Edge} {g : Option (Nat × Bool)}
  (hl : ∀ x u, lk x = some u → ev n f x = u.val) (h : (clT s lk F xs dd K).holds) (st : St w0 W s.rs) (fa : Facts w0 W s.B) (k : ∀ v s' d' W', (K v s' d').holds → s'.E = s.E → (∃ N, s'.O = N ++ s.O) → Below W.heap.size W W' → St w0 W' s'.rs → Facts w0 W' s'.B → KK v.val W') : Stp P n ⟨d, .call { callee := .value (.func F), args := xs.toArray, argTypes := ats }, ty, pos, af, g⟩ f W Q KK := by
 unfold clT at h
 refine dU h fun d' h => ?_
 split at h
 ·next ps rk G0 F' fn hf hct hg kk =>
  obtain ⟨rfl, ho, h⟩ := h
  refine aQ h fun us hus h => ?_
  obtain ⟨hp, h⟩ := lP st fa h hg
  obtain ⟨hG, h⟩ := yZ h st.below fa
  refine iS hf ho (tG hl hus) ((hct.run W _ hG hp).mono ?_)
  rintro e W' ⟨_, vs, rs, _, rfl, hr, hst'⟩
  refine pP h hr (st.call hst') fun ts s' h' e1 e2 e3 e4 st' hgd => ?_
  exact ⟨_, rfl, by rw [← e1, ← rY]; exact k _ s' _ W' (h' hgd) e2 e4 hst'.below st' (by rw [e3]; exact fa.up hst'.below)⟩
 ·next A' ps R' rk G0 F' fn hf hct hg kk =>
  obtain ⟨rfl, ho, h⟩ := h
  refine aQ h fun us hus h => ?_
  obtain ⟨hp, h⟩ := lP st fa h hg
  obtain ⟨hG, h⟩ := yZ h st.below fa
  refine iS hf ho (tG hl hus) ((hct.run W _ hG hp).mono ?_)
  rintro e W' ⟨a, vs, rs, ha, rfl, hr, hst'⟩
  refine pP (h a ha) hr (st.call hst') fun ts s' h' e1 e2 e3 e4 st' hgd => ?_
  exact ⟨_, rfl, by rw [← e1, ← rY]; exact k _ s' _ W' (h' hgd) e2 e4 hst'.below st' (by rw [e3]; exact fa.up hst'.below)⟩
 exact h.elim
end
end Go.Proofs.YtanpcpoogkdlaaaGreat
