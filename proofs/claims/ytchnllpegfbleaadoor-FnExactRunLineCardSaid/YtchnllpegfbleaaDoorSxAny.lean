/-
  A region that draws its order, walked once: each operation says what holds of what it lays down; whatever the order, that holds in the end.
-/
import Derived.Test.YtchnllpegfbleaaDoorSxRow
import Derived.Orders
namespace Go.Proofs.YtchnllpegfbleaaDoor
set_option linter.unusedSimpArgs false
set_option linter.unusedVariables false
open Go.RowKit

def yl : Value → Option Bool
  | .bool b => some b
  | _ => none
/-- What is said of the value of an operation; and the Bool that it is, if it is one. -/
structure Pl where
  p : Value → World → Prop
  b : Option Bool
  up : ∀ {v W W'}, p v W → Below W.heap.size W W' → p v W'
  yld : ∀ {v W}, p v W → yl v = b
def Pl.is (u : Value) (h : yl u = none := by rfl) : Pl := ⟨fun v _ => v = u, none, fun h _ => h, fun {_ _} e => by rw [e]; exact h⟩
def Pl.bool (x : Bool) : Pl := ⟨fun v _ => v = .bool x, some x, fun h _ => h, fun {_ _} e => by rw [e]; rfl⟩
/-- Not carried out. -/
def Pl.off : Pl := Pl.is undef
def Pl.val {α : Type} [Shape α] [Agg α] (x : α) (fp : List Nat) (h : Agg.agg α = true := by rfl) : Pl :=
  ⟨fun v W => V W v x fp, none, fun h hb => h.below hb, fun {_ _} e => by obtain ⟨cs, rfl, _⟩ := e; simp [Go.Proofs.YtchnllpegfbleaaDoor.val, h, yl]⟩
/-- The same, wherever it leads to. -/
def Pl.sval {α : Type} [Shape α] [Agg α] (x : α) (h : Agg.agg α = true := by rfl) : Pl :=
  ⟨fun v W => ∃ fp, V W v x fp, none, fun ⟨fp, h⟩ hb => ⟨fp, h.below hb⟩, fun {_ _} e => by obtain ⟨_, cs, rfl, _⟩ := e; simp [Go.Proofs.YtchnllpegfbleaaDoor.val, h, yl]⟩
def Pl.sl {α : Type} [Shape α] (xs : List α) (fp : List Nat) : Pl :=
  ⟨fun v W => Sl W v xs fp, none, fun h hb => h.below hb, fun {_ _} e => by obtain ⟨_, _, rfl, _⟩ := e; rfl⟩
def Pl.ssl {α : Type} [Shape α] (xs : List α) : Pl :=
  ⟨fun v W => ∃ fp, Sl W v xs fp, none, fun ⟨fp, h⟩ hb => ⟨fp, h.below hb⟩, fun {_ _} e => by obtain ⟨_, _, _, rfl, _⟩ := e; rfl⟩
/-- A pointer to where x lies, among the blocks fp. -/
def Pl.at {α : Type} [Shape α] (x : α) (fp : List Nat) : Pl :=
  ⟨fun v W => ∃ b o f1, v = .pointer (some ⟨b, o, none⟩) ∧ At W b o x f1 ∧ ∀ c ∈ b :: f1, c ∈ fp, none, fun ⟨b, o, f1, h, h2, h3⟩ hb => ⟨b, o, f1, h, h2.below hb, h3⟩, fun {_ _} e => by obtain ⟨_, _, _, rfl, _⟩ := e; rfl⟩

/-- A block made by the region itself. -/
def Pl.blk (N : Nat) (cs : List Value) (e : TypeId) (m : Nat) : Pl :=
  ⟨fun v W => ∃ b, v = .slice (some ⟨b, 0, none⟩) m m ∧ W.heap[b]? = some (.cells cs.toArray e (0, 0)) ∧ N ≤ b, none,
    fun ⟨b, h1, h2, h3⟩ hb => ⟨b, h1, by rw [hb.block b (Array.getElem?_eq_some_iff.1 h2).1]; exact h2, h3⟩, fun {_ _} e => by obtain ⟨b, rfl, _⟩ := e; rfl⟩
theorem St.add {w0 W W' : World} {rs : List Res} {b : Nat} {cs : List Value} {e : TypeId} (h : St w0 W rs) (h' : St w0 W' rs) (hb : W'.heap[b]? = some (.cells cs.toArray e (0, 0))) (hN : W.heap.size ≤ b) : St w0 W' (Res.bx b cs e :: rs) := by
  refine ⟨h'.below, ?_, ?_, ?_⟩
  · rw [List.flatMap_cons, List.nodup_append]
    refine ⟨by simp [Res.bx], h'.nodup, ?_⟩
    intro a ha c hc e
    simp only [Res.bx, List.mem_singleton] at ha
    subst ha e
    obtain ⟨r, hr, hrc⟩ := List.mem_flatMap.1 hc
    have := h.lt hr _ hrc
    omega
  · intro r hr c hc
    rcases List.mem_cons.1 hr with rfl | hr
    · simp only [Res.bx, List.mem_singleton] at hc
      subst hc
      exact Nat.le_trans h.below.size hN
    · exact h'.fresh r hr c hc
  · intro r hr
    rcases List.mem_cons.1 hr with rfl | hr
    · exact hb
    · exact h'.holds r hr
theorem stp_blk {P : Program} {n : Nat} {f : Nat → Value} {W Ws : World} {Q : Exit → Act → World → Prop} {d : Option Tmp} {ty : TypeId} {pos : String} {af : Array Go.Edge} {g : Option (Nat × Bool)}
    {t e : TypeId} {len : Nat} {parts : List (Nat × Operand)} {vs : List (Nat × Value)} {cs : List Value} (hv : parts.map (fun (i, x) => (i, ev n f x)) = vs) (hb : (Instr.buildSlice t len vs.toArray).run P W = .ok (.slice (some ⟨W.heap.size, 0, none⟩) len len) (W.alloc (.cells cs.toArray e))) (hbl : Below Ws.heap.size Ws W) :
    Stp P n ⟨d, .buildSlice t len parts.toArray, ty, pos, af, g⟩ f W Q (fun v W' => Below W.heap.size W W' ∧ (Pl.blk Ws.heap.size cs e len).p v W') :=
  stp_buildSlice hv hb (St.start W) (fun b W' hb' hst => ⟨hb', b, rfl, hst.get 0 rfl, Nat.le_trans hbl.size (hst.fresh (Res.bx b cs e) (List.mem_cons_self ..) b (List.mem_cons_self ..))⟩)
def dstOf (l : List Oper) (i : Nat) : Option Tmp := (l[i]?).bind (·.dst)
/-- Number i waits for number j. -/
def dep (l : List Oper) (i j : Nat) : Bool := ((l[i]?).map (fun o => o.after.toList.any (fun e => Nat.beq e.on j && Region.binds .any e))).getD false
/-- Slot t holds at number i what it held at first. -/
def keepAt (l : List Oper) (i t : Nat) : Bool := (List.range l.length).all (fun j => Nat.beq j i || (match dstOf l j with | some d => !Nat.beq d t | none => true) || dep l j i)
def keepAll (l : List Oper) (t : Nat) : Bool := l.all (fun o => match o.dst with | some d => !Nat.beq d t | none => true)
def onOf (l : List Oper) (F : List Pl) (o : Oper) : Bool :=
  match o.guard with
  | none => true
  | some (j, w) => (F.getD j Pl.off).b == some w

section
variable {P : Program} {n : Nat} {w0 : World} {rs : List Res} {Q : Exit → Act → World → Prop}
/-- What is to be shown of number i. -/
def StepOk (P : Program) (n : Nat) (Ws w0 : World) (rs : List Res) (Q : Exit → Act → World → Prop) (l : List Oper) (F : List Pl) (f0 : Nat → Value) (i : Nat) (o : Oper) (p : Pl) : Prop :=
  ∀ f W, St w0 W rs → Below Ws.heap.size Ws W → (∀ j d, dep l i j = true → dstOf l j = some d → (F.getD j Pl.off).p (f d) W) → (∀ t, keepAt l i t = true → f t = f0 t) →
    cond (onOf l F o) (Stp P n o f W Q (fun v W' => Below W.heap.size W W' ∧ p.p v W')) (p.p undef W)
def AllSteps (P : Program) (n : Nat) (Ws w0 : World) (rs : List Res) (Q : Exit → Act → World → Prop) (l : List Oper) (F : List Pl) (f0 : Nat → Value) : Nat → List Oper → List Pl → Prop
  | _, [], [] => True
  | i, o :: os, p :: ps => StepOk P n Ws w0 rs Q l F f0 i o p ∧ AllSteps P n Ws w0 rs Q l F f0 (i + 1) os ps
  | _, _, _ => False
theorem AllSteps.get {Ws : World} {l : List Oper} {F : List Pl} {f0 : Nat → Value} : ∀ {os : List Oper} {ps : List Pl} {k : Nat}, AllSteps P n Ws w0 rs Q l F f0 k os ps → ∀ i o, os[i]? = some o → ∃ p, ps[i]? = some p ∧ StepOk P n Ws w0 rs Q l F f0 (k + i) o p
  | o :: os, p :: ps, k, h, 0, o', hi => by simp at hi; subst hi; exact ⟨p, rfl, h.1⟩
  | o :: os, p :: ps, k, h, i + 1, o', hi => by
    obtain ⟨q, hq, hs⟩ := AllSteps.get h.2 i o' (by simpa using hi)
    exact ⟨q, by simpa using hq, by rw [← Nat.add_assoc, Nat.add_right_comm]; exact hs⟩
  | [], _, _, _, i, o', hi => by simp at hi
  | o :: os, [], _, h, _, _, _ => h.elim

/-- The region's form: what waits, waits for what stands ahead; no slot is written twice; a guard is waited for. -/
def ordOk (n : Nat) (l : List Oper) : Bool :=
  (List.range l.length).all (fun i => (List.range l.length).all (fun j => (!dep l i j || Nat.blt j i) && (Nat.beq i j || (match dstOf l i, dstOf l j with | some a, some b => !Nat.beq a b | _, _ => true)))) &&
  l.all (fun o => o.after.toList.all (fun e => !Region.binds .any e || Nat.blt e.on l.length) && (match o.dst with | some d => Nat.blt d n | none => true)) &&
  (List.range l.length).all (fun i => match (l[i]?).bind (·.guard) with | some (j, _) => dep l i j && (dstOf l j).isSome | none => true)
structure OrdOk (n : Nat) (l : List Oper) : Prop where
  lt : ∀ i j, i < l.length → dep l i j = true → j < i
  ne : ∀ i j a, i < l.length → j < l.length → i ≠ j → dstOf l i = some a → dstOf l j = some a → False
  dst : ∀ i d, i < l.length → dstOf l i = some d → d < n
  guard : ∀ i o j w, l[i]? = some o → o.guard = some (j, w) → dep l i j = true ∧ ∃ d, dstOf l j = some d
theorem dep_lt {l : List Oper} {i j : Nat} (hb : ∀ o ∈ l, ∀ e ∈ o.after, Region.binds .any e = true → e.on < l.length) (h : dep l i j = true) : j < l.length := by
  unfold dep at h
  cases hi : l[i]? with
  | none => simp [hi] at h
  | some o =>
    simp only [hi, Option.map_some, Option.getD_some, List.any_eq_true] at h
    obtain ⟨e, he, h⟩ := h
    simp only [Bool.and_eq_true] at h
    have := hb o (List.mem_of_getElem? hi) e (by simpa using he) h.2
    rw [Nat.eq_of_beq_eq_true h.1] at this
    exact this
theorem blt_lt {a b : Nat} (h : Nat.blt a b = true) : a < b := Nat.le_of_ble_eq_true h
theorem beq_f {a b : Nat} (h : a ≠ b) : Nat.beq a b = false := by
  cases e : Nat.beq a b
  · rfl
  · exact absurd (Nat.eq_of_beq_eq_true e) h
theorem beq_self (a : Nat) : Nat.beq a a = true := Nat.beq_refl a
theorem OrdOk.of {n : Nat} {l : List Oper} (h : ordOk n l = true) : OrdOk n l := by
  simp only [ordOk, Bool.and_eq_true, List.all_eq_true, List.mem_range, Bool.or_eq_true, Bool.not_eq_true'] at h
  obtain ⟨⟨h1, h2⟩, h3⟩ := h
  have hb : ∀ o ∈ l, ∀ e ∈ o.after, Region.binds .any e = true → e.on < l.length := by
    intro o ho e he hbn
    have := (h2 o ho).1 e (by simpa using he)
    rw [hbn] at this
    simpa using blt_lt (by simpa using this)
  refine ⟨?_, ?_, ?_, ?_⟩
  · intro i j hi hd
    have := (h1 i hi j (dep_lt hb hd)).1
    rw [hd] at this
    exact blt_lt (by simpa using this)
  · intro i j a hi hj hne ha hb'
    have := (h1 i hi j hj).2
    rw [beq_f hne, ha, hb'] at this
    simp at this
  · intro i d hi hd
    obtain ⟨o, ho⟩ : ∃ o, l[i]? = some o := ⟨_, List.getElem?_eq_getElem hi⟩
    have h4 := (h2 o (List.mem_of_getElem? ho)).2
    have : o.dst = some d := by simpa [dstOf, ho] using hd
    rw [this] at h4
    exact blt_lt h4
  · intro i o j w hi hg
    have hlt := (List.getElem?_eq_some_iff.1 hi).1
    have h4 := h3 i hlt
    simp only [hi, Option.bind_some, hg, Bool.and_eq_true] at h4
    exact ⟨h4.1, Option.isSome_iff_exists.1 h4.2⟩

structure Inv (Ws w0 : World) (rs : List Res) (l : List Oper) (m : Nat) (F : List Pl) (f0 : Nat → Value) (L : Array Bool) (f : Nat → Value) (W : World) : Prop where
  size : L.size = l.length + m
  tail : ∀ i, l.length ≤ i → i < L.size → L[i]? = some false
  st : St w0 W rs
  bl : Below Ws.heap.size Ws W
  vals : ∀ i d, i < l.length → L[i]? = some true → dstOf l i = some d → (F.getD i Pl.off).p (f d) W
  keep : ∀ t, (∀ i, i < l.length → L[i]? = some true → dstOf l i ≠ some t) → f t = f0 t
  down : ∀ i j, i < l.length → L[i]? = some true → dep l i j = true → L[j]? = some true

theorem getD_t {L : Array Bool} {i : Nat} : L.getD i false = true ↔ L[i]? = some true := by
  rw [Array.getD_eq_getD_getElem?]
  cases L[i]? <;> simp
theorem dep_of {l : List Oper} {i : Nat} {o : Oper} (hi : l[i]? = some o) {e : Edge} (he : e ∈ o.after) (hb : Region.binds .any e = true) : dep l i e.on = true := by
  unfold dep
  simp only [hi, Option.map_some, Option.getD_some]
  rw [List.any_eq_true]
  exact ⟨e, by simpa using he, by rw [hb, beq_self]; rfl⟩
theorem of_dep {l : List Oper} {i j : Nat} {o : Oper} (hi : l[i]? = some o) (h : dep l i j = true) : ∃ e ∈ o.after, e.on = j ∧ Region.binds .any e = true := by
  unfold dep at h
  simp only [hi, Option.map_some, Option.getD_some] at h
  rw [List.any_eq_true] at h
  obtain ⟨e, he, h⟩ := h
  simp only [Bool.and_eq_true] at h
  exact ⟨e, by simpa using he, Nat.eq_of_beq_eq_true h.1, h.2⟩

theorem count_set : ∀ (ls : List Bool) (i : Nat), ls[i]? = some false → (ls.set i true).countP (fun b => !b) + 1 = ls.countP (fun b => !b)
  | [], i, h => by simp at h
  | b :: ls, 0, h => by simp at h; subst h; simp
  | b :: ls, i + 1, h => by
    have := count_set ls i (by simpa using h)
    rw [List.set_cons_succ, List.countP_cons, List.countP_cons]
    omega
theorem any_main {Ws : World} {l tl : List Oper} {F : List Pl} {f0 : Nat → Value} (ho : OrdOk n l) (hs : AllSteps P n Ws w0 rs Q l F f0 0 l F)
    (ht : ∀ i o, l.length ≤ i → (l ++ tl)[i]? = some o → (∃ j, l.length ≤ j ∧ dep (l ++ tl) i j = true) ∨ ∀ j, j < l.length → dep (l ++ tl) i j = true ∨ ∃ m, j < m ∧ m < l.length ∧ dep l m j = true)
    (fin : ∀ fuel L f W, tl.length ≤ fuel → (∀ i, i < l.length → L[i]? = some true) → Inv Ws w0 rs l tl.length F f0 L f W → wpAny P .any (l ++ tl).toArray Q fuel L (act n f) W) :
    ∀ fuel L f W, Inv Ws w0 rs l tl.length F f0 L f W → (L.toList.countP (fun b => !b)) ≤ fuel → wpAny P .any (l ++ tl).toArray Q fuel L (act n f) W := by
  intro fuel
  induction fuel with
  | zero =>
    intro L f W hI hc
    have hall : ∀ i, i < L.size → L[i]? = some true := by
      intro i hi
      have h0 : L.toList.countP (fun b => !b) = 0 := by omega
      rw [List.countP_eq_zero] at h0
      have := h0 L[i] (by simp)
      rw [Array.getElem?_eq_getElem hi]
      simpa using this
    have htl : tl.length = 0 := by
      by_cases h : tl.length = 0
      · exact h
      · have h1 := hI.tail l.length (Nat.le_refl _) (by rw [hI.size]; omega)
        have h2 := hall l.length (by rw [hI.size]; omega)
        rw [h1] at h2; cases h2
    exact fin 0 L f W (by omega) (fun i hi => hall i (by rw [hI.size]; omega)) hI
  | succ fuel ih =>
    intro L f W hI hc
    by_cases hall : ∀ i, i < l.length → L[i]? = some true
    · refine fin (fuel + 1) L f W ?_ hall hI
      have : tl.length ≤ L.toList.countP (fun b => !b) := by
        have e : L.toList = L.toList.take l.length ++ L.toList.drop l.length := (List.take_append_drop _ _).symm
        rw [e, List.countP_append]
        have : (L.toList.drop l.length).countP (fun b => !b) = (L.toList.drop l.length).length := by
          rw [List.countP_eq_length]
          intro b hb
          obtain ⟨j, hj⟩ := List.mem_iff_getElem?.1 hb
          rw [List.getElem?_drop, Array.getElem?_toList] at hj
          have hlt : l.length + j < L.size := (Array.getElem?_eq_some_iff.1 hj).1
          rw [hI.tail _ (by omega) hlt] at hj
          cases hj; rfl
        rw [this, List.length_drop]
        have h3 := hI.size
        have h4 : L.toList.length = L.size := Array.length_toList
        omega
      omega
    · -- the least that has not come up
      have hex : ∃ i, i < l.length ∧ L[i]? = some false := by
        apply Classical.byContradiction
        intro hn
        apply hall
        intro i hi
        cases h : L[i]? with
        | none => rw [Array.getElem?_eq_none_iff, hI.size] at h; omega
        | some b =>
          cases b
          · exact absurd ⟨i, hi, h⟩ hn
          · rfl
      obtain ⟨i0, ⟨hi0, hf0⟩, hmin⟩ := least hex
      have hlen : (l ++ tl).length = l.length + tl.length := List.length_append
      have hready : i0 ∈ Region.ready .any (l ++ tl).toArray L := by
        unfold Region.ready
        rw [List.mem_filter]
        obtain ⟨o, hoo⟩ : ∃ o, l[i0]? = some o := ⟨_, List.getElem?_eq_getElem hi0⟩
        have hoo' : (l ++ tl)[i0]? = some o := by rw [List.getElem?_append_left hi0]; exact hoo
        refine ⟨by rw [List.mem_range, List.size_toArray, hlen]; omega, ?_⟩
        rw [Array.getD_eq_getD_getElem?, hf0]
        simp only [Option.getD_some, Bool.not_false, Bool.true_and, List.getElem?_toArray, hoo', Option.map_some]
        rw [Array.all_eq_true_iff_forall_mem]
        intro e he
        by_cases hb : Region.binds .any e = true
        · have hd := dep_of hoo he hb
          have hj := ho.lt i0 e.on hi0 hd
          have : L[e.on]? = some true := by
            cases h : L[e.on]? with
            | none => rw [Array.getElem?_eq_none_iff, hI.size] at h; omega
            | some b =>
              cases b
              · have := hmin e.on ⟨by omega, h⟩; omega
              · rfl
          rw [getD_t.2 this]; simp
        · simp only [Bool.not_eq_true] at hb
          rw [hb]; rfl
      refine ⟨fun h => (by rw [h] at hready; cases hready), ?_⟩
      intro i hi
      unfold Region.ready at hi
      rw [List.mem_filter, List.mem_range, List.size_toArray, hlen] at hi
      obtain ⟨hilt, hi⟩ := hi
      obtain ⟨o, hoo⟩ : ∃ o, (l ++ tl)[i]? = some o := ⟨_, List.getElem?_eq_getElem (by rw [hlen]; exact hilt)⟩
      simp only [List.getElem?_toArray, hoo, Option.map_some, Option.getD_some, Bool.and_eq_true, Bool.not_eq_true'] at hi
      obtain ⟨hun, hdep⟩ := hi
      have hun' : L[i]? = some false := by
        rw [Array.getD_eq_getD_getElem?] at hun
        cases h : L[i]? with
        | none => rw [h] at hun; cases hun
        | some b => rw [h] at hun; simp at hun; rw [hun]
      rw [Array.all_eq_true_iff_forall_mem] at hdep
      have hdep' : ∀ e ∈ o.after, Region.binds .any e = true → L[e.on]? = some true := by
        intro e he hb
        have := hdep e he
        rw [hb] at this
        exact getD_t.1 (by simpa using this)
      have hiN : i < l.length := by
        by_cases h : i < l.length
        · exact h
        · exfalso
          rcases ht i o (by omega) hoo with ⟨j, hj, hd⟩ | hcov
          · obtain ⟨e, he, heq, hb⟩ := of_dep hoo hd
            have h1 := hdep' e he hb
            rw [heq] at h1
            rw [hI.tail j hj (Array.getElem?_eq_some_iff.1 h1).1] at h1
            cases h1
          · have key : ∀ m j, l.length - j = m → j < l.length → L[j]? = some true := by
              intro m
              induction m using Nat.strongRecOn with
              | _ m ihm =>
                intro j hm hj
                rcases hcov j hj with hd | ⟨m', h1, h2, h3⟩
                · obtain ⟨e, he, heq, hb⟩ := of_dep hoo hd
                  rw [← heq]; exact hdep' e he hb
                · exact hI.down m' j h2 (ihm (l.length - m') (by omega) m' rfl h2) h3
            have := key _ i0 rfl hi0
            rw [hf0] at this
            cases this
      have hol : l[i]? = some o := by rw [List.getElem?_append_left hiN] at hoo; exact hoo
      obtain ⟨p, hp, hstep⟩ := hs.get i o hol
      rw [Nat.zero_add] at hstep
      have hpF : F.getD i Pl.off = p := by rw [List.getD_eq_getElem?_getD, hp]; rfl
      have hdl : ∀ j, dep l i j = true → L[j]? = some true := by
        intro j hj
        obtain ⟨e, he, heq, hb⟩ := of_dep hol hj
        rw [← heq]; exact hdep' e he hb
      have h1 := hstep f W hI.st hI.bl (fun j d hj hd => hI.vals j d (by have := ho.lt i j hiN hj; omega) (hdl j hj) hd) (fun t hk => by
        refine hI.keep t (fun j hjN hj hd => ?_)
        unfold keepAt at hk
        rw [List.all_eq_true] at hk
        have := hk j (by simpa using hjN)
        rw [hd] at this
        simp only [beq_self, Bool.not_true, Bool.or_false, Bool.or_eq_true] at this
        rcases this with h | h
        · rw [Nat.eq_of_beq_eq_true h, hun'] at hj; cases hj
        · have := hI.down j i hjN hj h
          rw [hun'] at this; cases this)
      have next : ∀ v W', Below W.heap.size W W' → p.p v W' → wpAny P .any (l ++ tl).toArray Q fuel (L.setIfInBounds i true) (act n (putF f o.dst v)) W' := by
        intro v W' hb hv
        have hdo : dstOf l i = o.dst := by simp [dstOf, hol]
        have hsz : i < L.size := (Array.getElem?_eq_some_iff.1 hun').1
        have hother : ∀ j, j ≠ i → (L.setIfInBounds i true)[j]? = L[j]? := fun j hj => by rw [Array.getElem?_setIfInBounds, if_neg (fun e => hj e.symm)]
        have hself : (L.setIfInBounds i true)[i]? = some true := by rw [Array.getElem?_setIfInBounds]; simp [hsz]
        refine ih _ _ _ ⟨by simpa using hI.size, ?_, by simpa using hI.st.call (St.of_below hb), hI.bl.trans (hb.mono hI.bl.size), ?_, ?_, ?_⟩ ?_
        · intro j hj hjs
          rw [hother j (by omega)]
          exact hI.tail j hj (by simpa using hjs)
        · intro j d hj hl hd
          by_cases e : j = i
          · subst e
            rw [hpF]
            rw [hdo] at hd
            rw [hd]
            simp only [putF, upd, beq_self, cond_true]
            exact hv
          · rw [hother j e] at hl
            have hold := hI.vals j d hj hl hd
            have : putF f o.dst v d = f d := by
              cases hod : o.dst with
              | none => rfl
              | some d' =>
                simp only [putF, upd]
                rw [beq_f (fun e' => ho.ne j i d hj hiN e hd (by rw [hdo, hod, e']))]; rfl
            rw [this]
            exact (F.getD j Pl.off).up hold hb
        · intro t hk
          have hne : o.dst ≠ some t := by rw [← hdo]; exact hk i hiN hself
          have : putF f o.dst v t = f t := by
            cases hod : o.dst with
            | none => rfl
            | some d' =>
              simp only [putF, upd]
              rw [beq_f (fun e' => hne (by rw [hod, e']))]; rfl
          rw [this]
          refine hI.keep t (fun j hj hl => ?_)
          by_cases e : j = i
          · subst e; rw [hdo]; exact hne
          · exact hk j hj (by rw [hother j e]; exact hl)
        · intro j k hj hl hd
          by_cases e : j = i
          · subst e
            have hk := hdl k hd
            by_cases e2 : k = j
            · subst e2; exact hself
            · rw [hother k e2]; exact hk
          · rw [hother j e] at hl
            have hk := hI.down j k hj hl hd
            by_cases e2 : k = i
            · subst e2; exact hself
            · rw [hother k e2]; exact hk
        · have hcount : (L.setIfInBounds i true).toList.countP (fun b => !b) + 1 = L.toList.countP (fun b => !b) := by
            rw [Array.toList_setIfInBounds]
            have hget : L.toList[i]? = some false := by rw [Array.getElem?_toList]; exact hun'
            exact count_set _ _ hget
          omega
      unfold wpOp
      simp only [List.getElem?_toArray, hoo]
      have hw : Region.wanted o (yielded (l ++ tl).toArray (act n f).tmps) = onOf l F o := by
        unfold Region.wanted onOf
        cases hg : o.guard with
        | none => rfl
        | some jw =>
          obtain ⟨j, w⟩ := jw
          obtain ⟨hd, dd, hdd⟩ := ho.guard i o j w hol hg
          have hjN : j < l.length := by have := ho.lt i j hiN hd; omega
          have hv := hI.vals j dd hjN (hdl j hd) hdd
          have hy := (F.getD j Pl.off).yld hv
          have hdn := ho.dst j dd hjN hdd
          have : yielded (l ++ tl).toArray (act n f).tmps j = (F.getD j Pl.off).b := by
            rw [← hy]
            unfold yielded
            have e1 : (((l ++ tl).toArray[j]?).bind (·.dst)) = some dd := by
              rw [List.getElem?_toArray, List.getElem?_append_left hjN]; exact hdd
            rw [e1]
            simp only [Option.bind_some]
            have e2 : (act n f).tmps[dd]? = some (f dd) := by simp [act, hdn]
            rw [e2]
            cases f dd <;> rfl
          simp only [this]
      rw [hw]
      cases hon : onOf l F o with
      | true =>
        rw [hon] at h1
        simp only [cond_true] at h1
        simp only [if_true]
        exact .inl (Oper.wp_mono (fun a' w' ⟨v, e, hb, hv⟩ => by rw [e]; exact next v w' hb hv) h1.out)
      | false =>
        rw [hon] at h1
        simp only [cond_false] at h1
        simp only [Bool.false_eq_true, if_false]
        rw [act_put]
        exact next undef W (Below.refl _ _) h1
theorem inv_start {l : List Oper} {m : Nat} {F : List Pl} {f0 : Nat → Value} {W : World} (hst : St w0 W rs) : Inv W w0 rs l m F f0 (Array.replicate (l.length + m) false) f0 { W with drawn := W.drawn + 1 } := by
  have hb : Below W.heap.size W { W with drawn := W.drawn + 1 } := (Below.refl _ _).drew
  have hno : ∀ i : Nat, (Array.replicate (l.length + m) false)[i]? ≠ some true := by
    intro i h
    rw [Array.getElem?_replicate] at h
    split at h <;> cases h
  refine ⟨by simp, ?_, by simpa using hst.call (St.of_below hb), hb, ?_, fun _ _ => rfl, ?_⟩
  · intro i _ h
    rw [Array.getElem?_replicate, if_pos (by simpa using h)]
  · intro i d _ h; exact absurd h (hno i)
  · intro i j _ h; exact absurd h (hno i)
theorem keepAll_ne {l : List Oper} {t : Nat} (h : keepAll l t = true) : ∀ i, i < l.length → dstOf l i ≠ some t := by
  intro i hi hd
  unfold keepAll at h
  rw [List.all_eq_true] at h
  have := h l[i] (by simp)
  have e : l[i].dst = some t := by simpa [dstOf, List.getElem?_eq_getElem hi] using hd
  rw [e] at this
  simp [beq_self] at this
/-- A region that draws its order, of which no operation writes. -/
theorem sx_any {id : Nat} {l : List Oper} {W : World} {f0 : Nat → Value} (F : List Pl) (hm : P.follows .mixedOrders = true) (ho : ordOk n l = true) (hst : St w0 W rs) (hs : AllSteps P n W w0 rs Q l F f0 0 l F)
    (fin : ∀ f W', St w0 W' rs → Below W.heap.size W W' → (∀ i d, i < l.length → dstOf l i = some d → (F.getD i Pl.off).p (f d) W') → (∀ t, keepAll l t = true → f t = f0 t) → Q .normal (act n f) W') :
    (Code.region id l.toArray true).wp P Q (act n f0) W := by
  refine wp_region_any hm ?_
  have h := any_main (Ws := W) (tl := []) (OrdOk.of ho) hs (by intro i o hi h; rw [List.append_nil] at h; have := (List.getElem?_eq_some_iff.1 h).1; omega) ?_ l.length (Array.replicate (l.length + 0) false) f0 { W with drawn := W.drawn + 1 } (inv_start hst) ?_
  · simpa using h
  · intro fuel L f W' _ hall hI
    have hr : Region.ready .any (l ++ []).toArray L = [] := by
      unfold Region.ready
      rw [List.filter_eq_nil_iff]
      intro i hi
      rw [List.mem_range] at hi
      rw [Array.getD_eq_getD_getElem?, hall i (by simpa using hi)]
      simp
    have hq : Q .normal (act n f) W' := fin f W' hI.st hI.bl (fun i d hi hd => hI.vals i d hi (hall i hi) hd) (fun t ht => hI.keep t (fun i hi _ => keepAll_ne ht i hi))
    cases fuel with
    | zero => exact ⟨hr, hq⟩
    | succ fuel => exact ⟨fun _ => hq, by rw [hr]; simp⟩
  · have := List.countP_le_length (p := fun b => !b) (l := (Array.replicate (l.length + 0) false).toList)
    simpa using this
/-- The same, with one operation that waits for all others: it may write. -/
theorem sx_any1 {id : Nat} {l : List Oper} {o : Oper} {W : World} {f0 : Nat → Value} (F : List Pl) (hm : P.follows .mixedOrders = true) (ho : ordOk n l = true) (hw : (List.range l.length).all (fun j => dep (l ++ [o]) l.length j) = true) (hw2 : o.after.toList.all (fun e => !Region.binds .any e || Nat.blt e.on l.length) = true) (hg : o.guard = none)
    (hst : St w0 W rs) (hs : AllSteps P n W w0 rs Q l F f0 0 l F)
    (fin : ∀ f W', St w0 W' rs → Below W.heap.size W W' → (∀ i d, i < l.length → dstOf l i = some d → (F.getD i Pl.off).p (f d) W') → (∀ t, keepAll l t = true → f t = f0 t) → Stp P n o f W' Q (fun v W2 => Q .normal (act n (putF f o.dst v)) W2)) :
    (Code.region id (l ++ [o]).toArray true).wp P Q (act n f0) W := by
  refine wp_region_any hm ?_
  have hlast : (l ++ [o])[l.length]? = some o := by rw [List.getElem?_append_right (Nat.le_refl _)]; simp
  have hall' : ∀ j, j < l.length → dep (l ++ [o]) l.length j = true := by
    intro j hj
    rw [List.all_eq_true] at hw
    exact hw j (by simpa using hj)
  have h := any_main (Ws := W) (tl := [o]) (OrdOk.of ho) hs (by
    intro i o' hi h
    refine .inr fun j hj => ?_
    have hi' : i < (l ++ [o]).length := (List.getElem?_eq_some_iff.1 h).1
    have : i = l.length := by simp at hi'; omega
    subst this
    exact .inl (hall' j hj)) ?_ (l.length + 1) (Array.replicate (l.length + 1) false) f0 { W with drawn := W.drawn + 1 } (inv_start hst) ?_
  · simpa using h
  · intro fuel L f W' hfuel hall hI
    have hf := fin f W' hI.st hI.bl (fun i d hi hd => hI.vals i d hi (hall i hi) hd) (fun t ht => hI.keep t (fun i hi _ => keepAll_ne ht i hi))
    have hsz : L.size = l.length + 1 := hI.size
    have hlastL : L[l.length]? = some false := hI.tail _ (Nat.le_refl _) (by omega)
    have hbnd : ∀ e ∈ o.after, Region.binds .any e = true → L.getD e.on false = true := by
      intro e he hb
      rw [List.all_eq_true] at hw2
      have h1 := hw2 e (by simpa using he)
      rw [hb] at h1
      exact getD_t.2 (hall _ (blt_lt (by simpa using h1)))
    have hin : l.length ∈ Region.ready .any (l ++ [o]).toArray L := by
      unfold Region.ready
      rw [List.mem_filter]
      refine ⟨by simp, ?_⟩
      rw [Array.getD_eq_getD_getElem?, hlastL]
      simp only [Option.getD_some, Bool.not_false, Bool.true_and, List.getElem?_toArray, hlast, Option.map_some]
      rw [Array.all_eq_true_iff_forall_mem]
      intro e he
      by_cases hb : Region.binds .any e = true
      · rw [hbnd e he hb]; simp
      · simp only [Bool.not_eq_true] at hb
        rw [hb]; rfl
    have hready : ∀ i ∈ Region.ready .any (l ++ [o]).toArray L, i = l.length := by
      intro i hi
      unfold Region.ready at hi
      rw [List.mem_filter, List.mem_range] at hi
      simp only [Bool.and_eq_true, Bool.not_eq_true'] at hi
      by_cases h : i < l.length
      · rw [Array.getD_eq_getD_getElem?, hall i h] at hi
        cases hi.2.1
      · have h1 : i < l.length + 1 := by simpa using hi.1
        omega
    cases fuel with
    | zero => simp at hfuel
    | succ fuel =>
      refine ⟨fun h => (by rw [h] at hin; cases hin), fun i hi => ?_⟩
      obtain rfl := hready i hi
      unfold wpOp
      simp only [List.getElem?_toArray, hlast]
      rw [if_pos (by simp [Region.wanted, hg])]
      refine .inl (Oper.wp_mono ?_ hf.out)
      rintro a' w' ⟨v, rfl, hq⟩
      have hall2 : ∀ j, j < l.length + 1 → (L.setIfInBounds l.length true)[j]? = some true := by
        intro j hj
        rw [Array.getElem?_setIfInBounds]
        by_cases e : l.length = j
        · subst e; simp [hsz]
        · rw [if_neg e]; exact hall j (by omega)
      have hr : Region.ready .any (l ++ [o]).toArray (L.setIfInBounds l.length true) = [] := by
        unfold Region.ready
        rw [List.filter_eq_nil_iff]
        intro i hi
        rw [List.mem_range] at hi
        rw [Array.getD_eq_getD_getElem?, hall2 i (by simpa using hi)]
        simp
      cases fuel with
      | zero => exact ⟨hr, hq⟩
      | succ fuel => exact ⟨fun _ => hq, by rw [hr]; simp⟩
  · have := List.countP_le_length (p := fun b => !b) (l := (Array.replicate (l.length + 1) false).toList)
    simpa using this
/-- The tail's form: all ahead of it are waited for, by its first or by another that is; each waits for the tail ahead of it, and for nothing behind. -/
def tailOk (l tl : List Oper) : Bool :=
  (List.range l.length).all (fun j => dep (l ++ tl) l.length j || (List.range l.length).any (fun m => Nat.blt j m && dep l m j)) &&
  (List.range tl.length).all (fun k => (List.range k).all (fun j => dep (l ++ tl) (l.length + k) (l.length + j)) && ((tl[k]?).map (fun o => o.after.toList.all (fun e => !Region.binds .any e || Nat.blt e.on (l.length + k)))).getD true)
theorem any_tail {l tl : List Oper} (hT : tailOk l tl = true) : ∀ (m k fuel : Nat) (L : Array Bool) (a : Act) (W : World), tl.length - k = m → k ≤ tl.length → m ≤ fuel → L.size = l.length + tl.length → (∀ j, j < l.length + k → L[j]? = some true) → (∀ j, l.length + k ≤ j → j < L.size → L[j]? = some false) →
    wpList P (l ++ tl).toArray Q (tl.drop k) a W → wpAny P .any (l ++ tl).toArray Q fuel L a W := by
  intro m
  induction m with
  | zero =>
    intro k fuel L a W hm hk _ hsz hall _ h
    have hk' : k = tl.length := by omega
    rw [hk', List.drop_length] at h
    have hr : Region.ready .any (l ++ tl).toArray L = [] := by
      unfold Region.ready
      rw [List.filter_eq_nil_iff]
      intro i hi
      rw [List.mem_range, List.size_toArray, List.length_append] at hi
      rw [Array.getD_eq_getD_getElem?, hall i (by omega)]
      simp
    cases fuel with
    | zero => exact ⟨hr, h⟩
    | succ fuel => exact ⟨fun _ => h, by rw [hr]; simp⟩
  | succ m ih =>
    intro k fuel L a W hm hk hf hsz hall hno h
    have hklt : k < tl.length := by omega
    rw [List.drop_eq_getElem_cons hklt] at h
    unfold tailOk at hT
    rw [Bool.and_eq_true] at hT
    replace hT := hT.2
    rw [List.all_eq_true] at hT
    have hTk := hT k (by simpa using hklt)
    rw [List.getElem?_eq_getElem hklt] at hTk
    simp only [Option.map_some, Option.getD_some, Bool.and_eq_true, List.all_eq_true] at hTk
    obtain ⟨hT1, hT2⟩ := hTk
    have hat : (l ++ tl)[l.length + k]? = some tl[k] := by rw [List.getElem?_append_right (by omega), Nat.add_sub_cancel_left, List.getElem?_eq_getElem hklt]
    have hin : l.length + k ∈ Region.ready .any (l ++ tl).toArray L := by
      unfold Region.ready
      rw [List.mem_filter]
      refine ⟨by simp; omega, ?_⟩
      rw [Array.getD_eq_getD_getElem?, hno _ (Nat.le_refl _) (by omega)]
      simp only [Option.getD_some, Bool.not_false, Bool.true_and, List.getElem?_toArray, hat, Option.map_some]
      rw [Array.all_eq_true_iff_forall_mem]
      intro e he
      have h1 := hT2 e (by simpa using he)
      cases hb : Region.binds .any e with
      | false => rfl
      | true =>
        rw [hb] at h1
        rw [getD_t.2 (hall e.on (blt_lt (by simpa using h1)))]; simp
    have hready : ∀ i ∈ Region.ready .any (l ++ tl).toArray L, i = l.length + k := by
      intro i hi
      unfold Region.ready at hi
      rw [List.mem_filter, List.mem_range, List.size_toArray, List.length_append] at hi
      obtain ⟨hlt, hi⟩ := hi
      simp only [Bool.and_eq_true, Bool.not_eq_true'] at hi
      obtain ⟨h1, h2⟩ := hi
      by_cases hc : i < l.length + k
      · rw [Array.getD_eq_getD_getElem?, hall i hc] at h1; cases h1
      · apply Classical.byContradiction
        intro hne
        have hik : i - l.length < tl.length := by omega
        have hTi := hT (i - l.length) (by simpa using hik)
        rw [show l.length + (i - l.length) = i by omega] at hTi
        simp only [Bool.and_eq_true, List.all_eq_true] at hTi
        have hd := hTi.1 k (by rw [List.mem_range]; omega)
        have hi2 : (l ++ tl)[i]? = some tl[i - l.length] := by rw [List.getElem?_append_right (by omega), List.getElem?_eq_getElem hik]
        obtain ⟨e, he, heq, hb⟩ := of_dep hi2 hd
        simp only [List.getElem?_toArray, hi2, Option.map_some, Option.getD_some] at h2
        rw [Array.all_eq_true_iff_forall_mem] at h2
        have := h2 e he
        rw [hb, heq] at this
        have h3 := getD_t.1 (by simpa using this)
        rw [hno _ (Nat.le_refl _) (by omega)] at h3
        cases h3
    have next : ∀ a' W', wpList P (l ++ tl).toArray Q (tl.drop (k + 1)) a' W' → ∀ fuel', m ≤ fuel' → wpAny P .any (l ++ tl).toArray Q fuel' (L.setIfInBounds (l.length + k) true) a' W' := by
      intro a' W' h' fuel' hf'
      refine ih (k + 1) fuel' _ a' W' (by omega) hklt hf' (by simpa using hsz) ?_ ?_ h'
      · intro j hj
        rw [Array.getElem?_setIfInBounds]
        by_cases e : l.length + k = j
        · subst e; simp [show l.length + k < L.size by omega]
        · rw [if_neg e]; exact hall j (by omega)
      · intro j hj hjs
        rw [Array.getElem?_setIfInBounds, if_neg (by omega)]
        exact hno j (by omega) (by simpa using hjs)
    cases fuel with
    | zero => omega
    | succ fuel =>
      refine ⟨fun h' => (by rw [h'] at hin; cases hin), fun i hi => ?_⟩
      obtain rfl := hready i hi
      unfold wpOp
      simp only [List.getElem?_toArray, hat]
      unfold wpList at h
      by_cases hw : Region.wanted tl[k] (yielded (l ++ tl).toArray a.tmps) = true
      · rw [if_pos hw] at h ⊢
        rcases h with h | h
        · exact .inl (Oper.wp_mono (fun a' w' h' => next a' w' h' fuel (by omega)) h)
        · exact .inr h
      · rw [if_neg hw] at h ⊢
        exact next _ _ h fuel (by omega)
theorem tail_ht {l tl : List Oper} (hT : tailOk l tl = true) : ∀ i o, l.length ≤ i → (l ++ tl)[i]? = some o → (∃ j, l.length ≤ j ∧ dep (l ++ tl) i j = true) ∨ ∀ j, j < l.length → dep (l ++ tl) i j = true ∨ ∃ m, j < m ∧ m < l.length ∧ dep l m j = true := by
  intro i o hi h
  have hlt : i < (l ++ tl).length := (List.getElem?_eq_some_iff.1 h).1
  rw [List.length_append] at hlt
  unfold tailOk at hT
  rw [Bool.and_eq_true] at hT
  by_cases h0 : i = l.length
  · subst h0
    refine .inr fun j hj => ?_
    have h1 := hT.1
    rw [List.all_eq_true] at h1
    have h2 := h1 j (by simpa using hj)
    rw [Bool.or_eq_true] at h2
    rcases h2 with h2 | h2
    · exact .inl h2
    · rw [List.any_eq_true] at h2
      obtain ⟨m, hm, h3⟩ := h2
      rw [Bool.and_eq_true] at h3
      exact .inr ⟨m, blt_lt h3.1, by simpa using hm, h3.2⟩
  · refine .inl ⟨l.length, Nat.le_refl _, ?_⟩
    have h1 := hT.2
    rw [List.all_eq_true] at h1
    have := h1 (i - l.length) (by rw [List.mem_range]; omega)
    rw [show l.length + (i - l.length) = i by omega] at this
    simp only [Bool.and_eq_true, List.all_eq_true] at this
    exact this.1 0 (by rw [List.mem_range]; omega)

/-- The same, with a tail that goes in its order, behind all else: it may write. -/
theorem sx_anyT {id : Nat} {l : List Oper} (tl : List Oper) {W : World} {f0 : Nat → Value} (F : List Pl) (hm : P.follows .mixedOrders = true) (ho : ordOk n l = true) (hT : tailOk l tl = true)
    (hst : St w0 W rs) (hs : AllSteps P n W w0 rs Q l F f0 0 l F)
    (fin : ∀ f W', St w0 W' rs → Below W.heap.size W W' → (∀ i d, i < l.length → dstOf l i = some d → (F.getD i Pl.off).p (f d) W') → (∀ t, keepAll l t = true → f t = f0 t) → Wl P (l ++ tl).toArray Q tl n f W') :
    (Code.region id (l ++ tl).toArray true).wp P Q (act n f0) W := by
  refine wp_region_any hm ?_
  have h := any_main (Ws := W) (tl := tl) (OrdOk.of ho) hs ?_ ?_ (l.length + tl.length) (Array.replicate (l.length + tl.length) false) f0 { W with drawn := W.drawn + 1 } (inv_start hst) ?_
  · simpa using h
  · exact tail_ht hT
  · intro fuel L f W' hfuel hall hI
    have hf := fin f W' hI.st hI.bl (fun i d hi hd => hI.vals i d hi (hall i hi) hd) (fun t ht => hI.keep t (fun i hi _ => keepAll_ne ht i hi))
    refine any_tail hT tl.length 0 fuel L _ W' (by omega) (Nat.zero_le _) hfuel hI.size (fun j hj => hall j (by omega)) (fun j hj hjs => hI.tail j (by omega) hjs) (by simpa using hf.out)
  · have := List.countP_le_length (p := fun b => !b) (l := (Array.replicate (l.length + tl.length) false).toList)
    simpa using this
/-- The same, where the tail begins at number k. -/
theorem sx_anyK {id : Nat} {l : List Oper} (k : Nat) {W : World} {f0 : Nat → Value} (F : List Pl) (hm : P.follows .mixedOrders = true) (ho : ordOk n (l.take k) = true) (hT : tailOk (l.take k) (l.drop k) = true)
    (hst : St w0 W rs) (hs : AllSteps P n W w0 rs Q (l.take k) F f0 0 (l.take k) F)
    (fin : ∀ f W', St w0 W' rs → Below W.heap.size W W' → (∀ i d, i < (l.take k).length → dstOf (l.take k) i = some d → (F.getD i Pl.off).p (f d) W') → (∀ t, keepAll (l.take k) t = true → f t = f0 t) → Wl P l.toArray Q (l.drop k) n f W') :
    (Code.region id l.toArray true).wp P Q (act n f0) W := by
  have h := sx_anyT (id := id) (l := l.take k) (l.drop k) F hm ho hT hst hs (by rw [List.take_append_drop]; exact fin)
  rwa [List.take_append_drop] at h
end
end Go.Proofs.YtchnllpegfbleaaDoor
