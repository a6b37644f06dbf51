/-
  A region that draws its order, some operations of which write, one behind the other, a box that no other looks at.
-/
import Derived.Test.YtchnllpegfbleaaDoorSxAny
namespace Go.Proofs.YtchnllpegfbleaaDoor
set_option linter.unusedSimpArgs false
set_option linter.unusedVariables false
open Go.RowKit

section
variable {P : Program} {n : Nat} {w0 : World} {rs : List Res} {Q : Exit → Act → World → Prop}
def FixAll : List Pl → Prop
  | [] => True
  | q :: qs => (∀ v W W', q.p v W → q.p v W') ∧ FixAll qs
theorem FixAll.get : ∀ {F : List Pl}, FixAll F → ∀ i v W W', (F.getD i Pl.off).p v W → (F.getD i Pl.off).p v W'
  | [], _, _, _, _, _, h => h
  | q :: qs, hf, 0, v, W, W', h => hf.1 v W W' h
  | q :: qs, hf, i + 1, v, W, W', h => FixAll.get (F := qs) hf.2 i v W W' h
/-- The place of number i among the writers. -/
def wix : List Nat → Nat → Nat → Option Nat
  | [], _, _ => none
  | w :: ws, i, q => cond (Nat.beq i w) (some q) (wix ws i (q + 1))
theorem wix_some : ∀ {ws : List Nat} {i q k : Nat}, wix ws i q = some k → ∃ j : Nat, k = q + j ∧ ws[j]? = some i
  | w :: ws, i, q, k, h => by
    unfold wix at h
    cases hb : Nat.beq i w with
    | true =>
      rw [hb] at h
      simp only [cond_true, Option.some.injEq] at h
      exact ⟨0, h.symm, by rw [Nat.eq_of_beq_eq_true hb]; rfl⟩
    | false =>
      rw [hb] at h
      simp only [cond_false] at h
      obtain ⟨j, h1, h2⟩ := wix_some h
      exact ⟨j + 1, by omega, by simpa using h2⟩
theorem wix_none : ∀ {ws : List Nat} {i q : Nat}, wix ws i q = none → ∀ j : Nat, ws[j]? ≠ some i
  | [], i, q, _, j => by simp
  | w :: ws, i, q, h, j => by
    unfold wix at h
    cases hb : Nat.beq i w with
    | true => rw [hb] at h; simp at h
    | false =>
      rw [hb] at h
      simp only [cond_false] at h
      cases j with
      | zero => intro e; simp at e; subst e; rw [beq_self] at hb; cases hb
      | succ j => simpa using wix_none h j
/-- The writers stand in the region, and each waits for those ahead of it. -/
def wsOk (l : List Oper) (ws : List Nat) : Bool :=
  (List.range ws.length).all (fun q => Nat.blt (ws.getD q 0) l.length && (List.range q).all (fun p => dep l (ws.getD q 0) (ws.getD p 0) && !Nat.beq (ws.getD q 0) (ws.getD p 0)))
structure WsOk (l : List Oper) (ws : List Nat) : Prop where
  lt : ∀ q i : Nat, ws[q]? = some i → i < l.length
  dep : ∀ q p i j : Nat, ws[q]? = some i → ws[p]? = some j → p < q → Go.Proofs.YtchnllpegfbleaaDoor.dep l i j = true
  ne : ∀ q p i : Nat, ws[q]? = some i → ws[p]? = some i → p = q
theorem WsOk.of {l : List Oper} {ws : List Nat} (h : wsOk l ws = true) : WsOk l ws := by
  unfold wsOk at h
  rw [List.all_eq_true] at h
  have key : ∀ q i : Nat, ws[q]? = some i → Nat.blt i l.length = true ∧ ∀ p j : Nat, p < q → ws[p]? = some j → Go.Proofs.YtchnllpegfbleaaDoor.dep l i j = true ∧ Nat.beq i j = false := by
    intro q i hq
    have hl := (List.getElem?_eq_some_iff.1 hq).1
    have h1 := h q (by simpa using hl)
    have e : ws.getD q 0 = i := by rw [List.getD_eq_getElem?_getD, hq]; rfl
    rw [e, Bool.and_eq_true, List.all_eq_true] at h1
    refine ⟨h1.1, fun p j hp hj => ?_⟩
    have h2 := h1.2 p (by simpa using hp)
    have e2 : ws.getD p 0 = j := by rw [List.getD_eq_getElem?_getD, hj]; rfl
    rw [e2, Bool.and_eq_true] at h2
    exact ⟨h2.1, by simpa using h2.2⟩
  refine ⟨fun q i hq => blt_lt (key q i hq).1, fun q p i j hq hp hlt => ((key q i hq).2 p j hlt hp).1, ?_⟩
  intro q p i hq hp
  rcases Nat.lt_trichotomy p q with hlt | he | hgt
  · have := ((key q i hq).2 p i hlt hp).2
    rw [beq_self] at this; cases this
  · exact he
  · have := ((key p i hp).2 q i hgt hq).2
    rw [beq_self] at this; cases this
/-- What is to be shown of number i; the writers turn R 0 into R 1, that into R 2 .. -/
def StepW (P : Program) (n : Nat) (w0 : World) (rs : List Res) (Q : Exit → Act → World → Prop) (ws : List Nat) (R : Nat → Res) (l : List Oper) (F : List Pl) (f0 : Nat → Value) (i : Nat) (o : Oper) (p : Pl) : Prop :=
  match wix ws i 0 with
  | some q => onOf l F o = true ∧ ∀ f W, St w0 W (R q :: rs) → (∀ j d, dep l i j = true → dstOf l j = some d → (F.getD j Pl.off).p (f d) W) → (∀ t, keepAt l i t = true → f t = f0 t) → Stp P n o f W Q (fun v W' => St w0 W' (R (q + 1) :: rs) ∧ p.p v W')
  | none => ∀ f W r, St w0 W (r :: rs) → (∀ j d, dep l i j = true → dstOf l j = some d → (F.getD j Pl.off).p (f d) W) → (∀ t, keepAt l i t = true → f t = f0 t) →
      cond (onOf l F o) (Stp P n o f W Q (fun v W' => St w0 W' (r :: rs) ∧ p.p v W')) (p.p undef W)
def AllW (P : Program) (n : Nat) (w0 : World) (rs : List Res) (Q : Exit → Act → World → Prop) (ws : List Nat) (R : Nat → Res) (l : List Oper) (F : List Pl) (f0 : Nat → Value) : Nat → List Oper → List Pl → Prop
  | _, [], [] => True
  | i, o :: os, p :: ps => StepW P n w0 rs Q ws R l F f0 i o p ∧ AllW P n w0 rs Q ws R l F f0 (i + 1) os ps
  | _, _, _ => False
theorem AllW.get {ws : List Nat} {R : Nat → Res} {l : List Oper} {F : List Pl} {f0 : Nat → Value} : ∀ {os : List Oper} {ps : List Pl} {k : Nat}, AllW P n w0 rs Q ws R l F f0 k os ps → ∀ i o, os[i]? = some o → ∃ p, ps[i]? = some p ∧ StepW P n w0 rs Q ws R l F f0 (k + i) o p
  | o :: os, p :: ps, k, h, 0, o', hi => by simp at hi; subst hi; exact ⟨p, rfl, h.1⟩
  | o :: os, p :: ps, k, h, i + 1, o', hi => by
    obtain ⟨q, hq, hs⟩ := AllW.get h.2 i o' (by simpa using hi)
    exact ⟨q, by simpa using hq, by rw [← Nat.add_assoc, Nat.add_right_comm]; exact hs⟩
  | [], _, _, _, i, o', hi => by simp at hi
  | o :: os, [], _, h, _, _, _ => h.elim
structure InvW (w0 : World) (rs : List Res) (ws : List Nat) (R : Nat → Res) (l : List Oper) (m : Nat) (F : List Pl) (f0 : Nat → Value) (L : Array Bool) (f : Nat → Value) (W : World) : Prop where
  size : L.size = l.length + m
  tail : ∀ i, l.length ≤ i → i < L.size → L[i]? = some false
  ex : ∃ c, c ≤ ws.length ∧ (∀ q i : Nat, ws[q]? = some i → (L[i]? = some true ↔ q < c)) ∧ St w0 W (R c :: rs)
  vals : ∀ i d, i < l.length → L[i]? = some true → dstOf l i = some d → (F.getD i Pl.off).p (f d) W
  keep : ∀ t, (∀ i, i < l.length → L[i]? = some true → dstOf l i ≠ some t) → f t = f0 t
  down : ∀ i j, i < l.length → L[i]? = some true → dep l i j = true → L[j]? = some true
theorem any_mainW {ws : List Nat} {R : Nat → Res} {l tl : List Oper} {F : List Pl} {f0 : Nat → Value} (ho : OrdOk n l) (hws : WsOk l ws) (hfx : FixAll F) (hs : AllW P n w0 rs Q ws R l F f0 0 l F)
    (ht : ∀ i o, l.length ≤ i → (l ++ tl)[i]? = some o → (∃ j, l.length ≤ j ∧ dep (l ++ tl) i j = true) ∨ ∀ j, j < l.length → dep (l ++ tl) i j = true ∨ ∃ m, j < m ∧ m < l.length ∧ dep l m j = true)
    (fin : ∀ fuel L f W, tl.length ≤ fuel → (∀ i, i < l.length → L[i]? = some true) → InvW w0 rs ws R l tl.length F f0 L f W → wpAny P .any (l ++ tl).toArray Q fuel L (act n f) W) :
    ∀ fuel L f W, InvW w0 rs ws R l tl.length F f0 L f W → (L.toList.countP (fun b => !b)) ≤ fuel → wpAny P .any (l ++ tl).toArray Q fuel L (act n f) W := by
  intro fuel
  induction fuel with
  | zero =>
    intro L f W hI hc
    have hall : ∀ i, i < L.size → L[i]? = some true := by
      intro i hi
      have h0 : L.toList.countP (fun b => !b) = 0 := by omega
      rw [List.countP_eq_zero] at h0
      have := h0 L[i] (by simp)
      rw [Array.getElem?_eq_getElem hi]
      simpa using this
    have htl : tl.length = 0 := by
      by_cases h : tl.length = 0
      · exact h
      · have h1 := hI.tail l.length (Nat.le_refl _) (by rw [hI.size]; omega)
        have h2 := hall l.length (by rw [hI.size]; omega)
        rw [h1] at h2; cases h2
    exact fin 0 L f W (by omega) (fun i hi => hall i (by rw [hI.size]; omega)) hI
  | succ fuel ih =>
    intro L f W hI hc
    by_cases hall : ∀ i, i < l.length → L[i]? = some true
    · refine fin (fuel + 1) L f W ?_ hall hI
      have : tl.length ≤ L.toList.countP (fun b => !b) := by
        have e : L.toList = L.toList.take l.length ++ L.toList.drop l.length := (List.take_append_drop _ _).symm
        rw [e, List.countP_append]
        have : (L.toList.drop l.length).countP (fun b => !b) = (L.toList.drop l.length).length := by
          rw [List.countP_eq_length]
          intro b hb
          obtain ⟨j, hj⟩ := List.mem_iff_getElem?.1 hb
          rw [List.getElem?_drop, Array.getElem?_toList] at hj
          have hlt : l.length + j < L.size := (Array.getElem?_eq_some_iff.1 hj).1
          rw [hI.tail _ (by omega) hlt] at hj
          cases hj; rfl
        rw [this, List.length_drop]
        have h3 := hI.size
        have h4 : L.toList.length = L.size := Array.length_toList
        omega
      omega
    · -- the least that has not come up
      have hex : ∃ i, i < l.length ∧ L[i]? = some false := by
        apply Classical.byContradiction
        intro hn
        apply hall
        intro i hi
        cases h : L[i]? with
        | none => rw [Array.getElem?_eq_none_iff, hI.size] at h; omega
        | some b =>
          cases b
          · exact absurd ⟨i, hi, h⟩ hn
          · rfl
      obtain ⟨i0, ⟨hi0, hf0⟩, hmin⟩ := least hex
      have hlen : (l ++ tl).length = l.length + tl.length := List.length_append
      have hready : i0 ∈ Region.ready .any (l ++ tl).toArray L := by
        unfold Region.ready
        rw [List.mem_filter]
        obtain ⟨o, hoo⟩ : ∃ o, l[i0]? = some o := ⟨_, List.getElem?_eq_getElem hi0⟩
        have hoo' : (l ++ tl)[i0]? = some o := by rw [List.getElem?_append_left hi0]; exact hoo
        refine ⟨by rw [List.mem_range, List.size_toArray, hlen]; omega, ?_⟩
        rw [Array.getD_eq_getD_getElem?, hf0]
        simp only [Option.getD_some, Bool.not_false, Bool.true_and, List.getElem?_toArray, hoo', Option.map_some]
        rw [Array.all_eq_true_iff_forall_mem]
        intro e he
        by_cases hb : Region.binds .any e = true
        · have hd := dep_of hoo he hb
          have hj := ho.lt i0 e.on hi0 hd
          have : L[e.on]? = some true := by
            cases h : L[e.on]? with
            | none => rw [Array.getElem?_eq_none_iff, hI.size] at h; omega
            | some b =>
              cases b
              · have := hmin e.on ⟨by omega, h⟩; omega
              · rfl
          rw [getD_t.2 this]; simp
        · simp only [Bool.not_eq_true] at hb
          rw [hb]; rfl
      refine ⟨fun h => (by rw [h] at hready; cases hready), ?_⟩
      intro i hi
      unfold Region.ready at hi
      rw [List.mem_filter, List.mem_range, List.size_toArray, hlen] at hi
      obtain ⟨hilt, hi⟩ := hi
      obtain ⟨o, hoo⟩ : ∃ o, (l ++ tl)[i]? = some o := ⟨_, List.getElem?_eq_getElem (by rw [hlen]; exact hilt)⟩
      simp only [List.getElem?_toArray, hoo, Option.map_some, Option.getD_some, Bool.and_eq_true, Bool.not_eq_true'] at hi
      obtain ⟨hun, hdep⟩ := hi
      have hun' : L[i]? = some false := by
        rw [Array.getD_eq_getD_getElem?] at hun
        cases h : L[i]? with
        | none => rw [h] at hun; cases hun
        | some b => rw [h] at hun; simp at hun; rw [hun]
      rw [Array.all_eq_true_iff_forall_mem] at hdep
      have hdep' : ∀ e ∈ o.after, Region.binds .any e = true → L[e.on]? = some true := by
        intro e he hb
        have := hdep e he
        rw [hb] at this
        exact getD_t.1 (by simpa using this)
      have hiN : i < l.length := by
        by_cases h : i < l.length
        · exact h
        · exfalso
          rcases ht i o (by omega) hoo with ⟨j, hj, hd⟩ | hcov
          · obtain ⟨e, he, heq, hb⟩ := of_dep hoo hd
            have h1 := hdep' e he hb
            rw [heq] at h1
            rw [hI.tail j hj (Array.getElem?_eq_some_iff.1 h1).1] at h1
            cases h1
          · have key : ∀ m j, l.length - j = m → j < l.length → L[j]? = some true := by
              intro m
              induction m using Nat.strongRecOn with
              | _ m ihm =>
                intro j hm hj
                rcases hcov j hj with hd | ⟨m', h1, h2, h3⟩
                · obtain ⟨e, he, heq, hb⟩ := of_dep hoo hd
                  rw [← heq]; exact hdep' e he hb
                · exact hI.down m' j h2 (ihm (l.length - m') (by omega) m' rfl h2) h3
            have := key _ i0 rfl hi0
            rw [hf0] at this
            cases this
      have hol : l[i]? = some o := by rw [List.getElem?_append_left hiN] at hoo; exact hoo
      obtain ⟨p, hp, hstep⟩ := hs.get i o hol
      rw [Nat.zero_add] at hstep
      have hpF : F.getD i Pl.off = p := by rw [List.getD_eq_getElem?_getD, hp]; rfl
      have hdl : ∀ j, dep l i j = true → L[j]? = some true := by
        intro j hj
        obtain ⟨e, he, heq, hb⟩ := of_dep hol hj
        rw [← heq]; exact hdep' e he hb
      have hdp : ∀ j d, dep l i j = true → dstOf l j = some d → (F.getD j Pl.off).p (f d) W := (fun j d hj hd => hI.vals j d (by have := ho.lt i j hiN hj; omega) (hdl j hj) hd)
      have hkp : ∀ t, keepAt l i t = true → f t = f0 t := (fun t hk => by
        refine hI.keep t (fun j hjN hj hd => ?_)
        unfold keepAt at hk
        rw [List.all_eq_true] at hk
        have := hk j (by simpa using hjN)
        rw [hd] at this
        simp only [beq_self, Bool.not_true, Bool.or_false, Bool.or_eq_true] at this
        rcases this with h | h
        · rw [Nat.eq_of_beq_eq_true h, hun'] at hj; cases hj
        · have := hI.down j i hjN hj h
          rw [hun'] at this; cases this)
      have next : ∀ v W', (∃ c, c ≤ ws.length ∧ (∀ q j : Nat, ws[q]? = some j → ((L.setIfInBounds i true)[j]? = some true ↔ q < c)) ∧ St w0 W' (R c :: rs)) → p.p v W' → wpAny P .any (l ++ tl).toArray Q fuel (L.setIfInBounds i true) (act n (putF f o.dst v)) W' := by
        intro v W' hex hv
        have hdo : dstOf l i = o.dst := by simp [dstOf, hol]
        have hsz : i < L.size := (Array.getElem?_eq_some_iff.1 hun').1
        have hother : ∀ j, j ≠ i → (L.setIfInBounds i true)[j]? = L[j]? := fun j hj => by rw [Array.getElem?_setIfInBounds, if_neg (fun e => hj e.symm)]
        have hself : (L.setIfInBounds i true)[i]? = some true := by rw [Array.getElem?_setIfInBounds]; simp [hsz]
        refine ih _ _ _ ⟨by simpa using hI.size, ?_, hex, ?_, ?_, ?_⟩ ?_
        · intro j hj hjs
          rw [hother j (by omega)]
          exact hI.tail j hj (by simpa using hjs)
        · intro j d hj hl hd
          by_cases e : j = i
          · subst e
            rw [hpF]
            rw [hdo] at hd
            rw [hd]
            simp only [putF, upd, beq_self, cond_true]
            exact hv
          · rw [hother j e] at hl
            have hold := hI.vals j d hj hl hd
            have : putF f o.dst v d = f d := by
              cases hod : o.dst with
              | none => rfl
              | some d' =>
                simp only [putF, upd]
                rw [beq_f (fun e' => ho.ne j i d hj hiN e hd (by rw [hdo, hod, e']))]; rfl
            rw [this]
            exact hfx.get j _ _ _ hold
        · intro t hk
          have hne : o.dst ≠ some t := by rw [← hdo]; exact hk i hiN hself
          have : putF f o.dst v t = f t := by
            cases hod : o.dst with
            | none => rfl
            | some d' =>
              simp only [putF, upd]
              rw [beq_f (fun e' => hne (by rw [hod, e']))]; rfl
          rw [this]
          refine hI.keep t (fun j hj hl => ?_)
          by_cases e : j = i
          · subst e; rw [hdo]; exact hne
          · exact hk j hj (by rw [hother j e]; exact hl)
        · intro j k hj hl hd
          by_cases e : j = i
          · subst e
            have hk := hdl k hd
            by_cases e2 : k = j
            · subst e2; exact hself
            · rw [hother k e2]; exact hk
          · rw [hother j e] at hl
            have hk := hI.down j k hj hl hd
            by_cases e2 : k = i
            · subst e2; exact hself
            · rw [hother k e2]; exact hk
        · have hcount : (L.setIfInBounds i true).toList.countP (fun b => !b) + 1 = L.toList.countP (fun b => !b) := by
            rw [Array.toList_setIfInBounds]
            have hget : L.toList[i]? = some false := by rw [Array.getElem?_toList]; exact hun'
            exact count_set _ _ hget
          omega
      unfold wpOp
      simp only [List.getElem?_toArray, hoo]
      have hw : Region.wanted o (yielded (l ++ tl).toArray (act n f).tmps) = onOf l F o := by
        unfold Region.wanted onOf
        cases hg : o.guard with
        | none => rfl
        | some jw =>
          obtain ⟨j, w⟩ := jw
          obtain ⟨hd, dd, hdd⟩ := ho.guard i o j w hol hg
          have hjN : j < l.length := by have := ho.lt i j hiN hd; omega
          have hv := hI.vals j dd hjN (hdl j hd) hdd
          have hy := (F.getD j Pl.off).yld hv
          have hdn := ho.dst j dd hjN hdd
          have : yielded (l ++ tl).toArray (act n f).tmps j = (F.getD j Pl.off).b := by
            rw [← hy]
            unfold yielded
            have e1 : (((l ++ tl).toArray[j]?).bind (·.dst)) = some dd := by
              rw [List.getElem?_toArray, List.getElem?_append_left hjN]; exact hdd
            rw [e1]
            simp only [Option.bind_some]
            have e2 : (act n f).tmps[dd]? = some (f dd) := by simp [act, hdn]
            rw [e2]
            cases f dd <;> rfl
          simp only [this]
      rw [hw]
      obtain ⟨c, hc, hiff, hst⟩ := hI.ex
      have hsz : i < L.size := (Array.getElem?_eq_some_iff.1 hun').1
      have hother : ∀ j, j ≠ i → (L.setIfInBounds i true)[j]? = L[j]? := fun j hj => by rw [Array.getElem?_setIfInBounds, if_neg (fun e => hj e.symm)]
      have hself : (L.setIfInBounds i true)[i]? = some true := by rw [Array.getElem?_setIfInBounds]; simp [hsz]
      unfold StepW at hstep
      cases hq : wix ws i 0 with
      | some q =>
        rw [hq] at hstep
        simp only at hstep
        obtain ⟨j, e1, e2⟩ := wix_some hq
        have e1 : q = j := by omega
        subst e1
        have hcq : c = q := by
          have h1 : ¬ q < c := fun h => by rw [(hiff q i e2).2 h] at hun'; cases hun'
          have h2 : ¬ c < q := fun h => by
            obtain ⟨j, hj⟩ : ∃ j, ws[c]? = some j := ⟨_, List.getElem?_eq_getElem (by have := (List.getElem?_eq_some_iff.1 e2).1; omega)⟩
            have hd := hws.dep q c i j e2 hj h
            have := (hiff c j hj).1 (hdl j hd)
            omega
          omega
        subst hcq
        have hc1 : c + 1 ≤ ws.length := by have := (List.getElem?_eq_some_iff.1 e2).1; omega
        have hc2 : ∀ q' j : Nat, ws[q']? = some j → ((L.setIfInBounds i true)[j]? = some true ↔ q' < c + 1) := by
          intro q' j hj
          by_cases e : j = i
          · subst e
            have := hws.ne c q' j e2 hj
            subst this
            rw [hself]
            exact ⟨fun _ => Nat.lt_succ_self _, fun _ => rfl⟩
          · rw [hother j e, hiff q' j hj]
            constructor
            · intro h; omega
            · intro h
              have : q' ≠ c := fun e' => e (by subst e'; rw [hj] at e2; exact Option.some.inj e2)
              omega
        rw [hstep.1]
        simp only [if_true]
        exact .inl (Oper.wp_mono (fun a' w' ⟨v, e, hb, hv⟩ => by rw [e]; exact next v w' ⟨c + 1, hc1, hc2, hb⟩ hv) (hstep.2 f W hst hdp hkp).out)
      | none =>
        rw [hq] at hstep
        simp only at hstep
        have hni := wix_none hq
        have hex : ∀ W', St w0 W' (R c :: rs) → ∃ c, c ≤ ws.length ∧ (∀ q j : Nat, ws[q]? = some j → ((L.setIfInBounds i true)[j]? = some true ↔ q < c)) ∧ St w0 W' (R c :: rs) := fun W' h =>
          ⟨c, hc, fun q j hj => by rw [hother j (fun e => hni q (by rw [← e]; exact hj))]; exact hiff q j hj, h⟩
        have h1 := hstep f W (R c) hst hdp hkp
        cases hon : onOf l F o with
        | true =>
          rw [hon] at h1
          simp only [cond_true] at h1
          simp only [if_true]
          exact .inl (Oper.wp_mono (fun a' w' ⟨v, e, hb, hv⟩ => by rw [e]; exact next v w' (hex w' hb) hv) h1.out)
        | false =>
          rw [hon] at h1
          simp only [cond_false] at h1
          simp only [Bool.false_eq_true, if_false]
          rw [act_put]
          exact next undef W (hex W hst) h1

theorem inv_startW {ws : List Nat} {R : Nat → Res} {l : List Oper} {m : Nat} {F : List Pl} {f0 : Nat → Value} {W : World} (hst : St w0 W (R 0 :: rs)) : InvW w0 rs ws R l m F f0 (Array.replicate (l.length + m) false) f0 { W with drawn := W.drawn + 1 } := by
  have hb : Below W.heap.size W { W with drawn := W.drawn + 1 } := (Below.refl _ _).drew
  have hno : ∀ i : Nat, (Array.replicate (l.length + m) false)[i]? ≠ some true := by
    intro i h
    rw [Array.getElem?_replicate] at h
    split at h <;> cases h
  refine ⟨by simp, ?_, ⟨0, Nat.zero_le _, fun q i _ => ⟨fun h => absurd h (hno i), fun h => by omega⟩, by simpa using hst.call (St.of_below hb)⟩, ?_, fun _ _ => rfl, ?_⟩
  · intro i _ h
    rw [Array.getElem?_replicate, if_pos (by simpa using h)]
  · intro i d _ h; exact absurd h (hno i)
  · intro i j _ h; exact absurd h (hno i)
theorem sx_anyWT {id : Nat} {l : List Oper} (tl : List Oper) (ws : List Nat) (R : Nat → Res) {W : World} {f0 : Nat → Value} (F : List Pl) (hm : P.follows .mixedOrders = true) (ho : ordOk n l = true) (hT : tailOk l tl = true) (hiw : wsOk l ws = true)
    (hst : St w0 W (R 0 :: rs)) (hfx : FixAll F) (hs : AllW P n w0 rs Q ws R l F f0 0 l F)
    (fin : ∀ f W', St w0 W' (R ws.length :: rs) → (∀ i d, i < l.length → dstOf l i = some d → (F.getD i Pl.off).p (f d) W') → (∀ t, keepAll l t = true → f t = f0 t) → Wl P (l ++ tl).toArray Q tl n f W') :
    (Code.region id (l ++ tl).toArray true).wp P Q (act n f0) W := by
  refine wp_region_any hm ?_
  have h := any_mainW (ws := ws) (R := R) (tl := tl) (OrdOk.of ho) (WsOk.of hiw) hfx hs (tail_ht hT) ?_ (l.length + tl.length) (Array.replicate (l.length + tl.length) false) f0 { W with drawn := W.drawn + 1 } (inv_startW hst) ?_
  · simpa using h
  · intro fuel L f W' hfuel hall hI
    have hall2 : St w0 W' (R ws.length :: rs) := by
      obtain ⟨c, hc, hiff, hst⟩ := hI.ex
      have : c = ws.length := by
        apply Classical.byContradiction
        intro hne
        obtain ⟨j, hj⟩ : ∃ j, ws[c]? = some j := ⟨_, List.getElem?_eq_getElem (by omega)⟩
        have := (hiff c j hj).1 (hall j ((WsOk.of hiw).lt c j hj))
        omega
      rw [← this]; exact hst
    have hf := fin f W' hall2 (fun i d hi hd => hI.vals i d hi (hall i hi) hd) (fun t ht => hI.keep t (fun i hi _ => keepAll_ne ht i hi))
    exact any_tail hT tl.length 0 fuel L _ W' (by omega) (Nat.zero_le _) hfuel hI.size (fun j hj => hall j (by omega)) (fun j hj hjs => hI.tail j (by omega) hjs) (by simpa using hf.out)
  · have := List.countP_le_length (p := fun b => !b) (l := (Array.replicate (l.length + tl.length) false).toList)
    simpa using this
theorem sx_anyW {id : Nat} {l : List Oper} (k : Nat) (ws : List Nat) (R : Nat → Res) {W : World} {f0 : Nat → Value} (F : List Pl) (hm : P.follows .mixedOrders = true) (ho : ordOk n (l.take k) = true) (hT : tailOk (l.take k) (l.drop k) = true) (hiw : wsOk (l.take k) ws = true)
    (hst : St w0 W (R 0 :: rs)) (hfx : FixAll F) (hs : AllW P n w0 rs Q ws R (l.take k) F f0 0 (l.take k) F)
    (fin : ∀ f W', St w0 W' (R ws.length :: rs) → (∀ i d, i < (l.take k).length → dstOf (l.take k) i = some d → (F.getD i Pl.off).p (f d) W') → (∀ t, keepAll (l.take k) t = true → f t = f0 t) → Wl P l.toArray Q (l.drop k) n f W') :
    (Code.region id l.toArray true).wp P Q (act n f0) W := by
  have h := sx_anyWT (id := id) (l := l.take k) (l.drop k) ws R F hm ho hT hiw hst hfx hs (by rw [List.take_append_drop]; exact fin)
  rwa [List.take_append_drop] at h
end
end Go.Proofs.YtchnllpegfbleaaDoor
