/-
  Steps of a walk over a frame that is a function of the slot's number: each operation has one law; a region that draws its order is walked once, whatever the order. Theory alone.
-/
import Derived.Test.YtchnllpegfbleaaDoorBase
namespace Go.Proofs.YtchnllpegfbleaaDoor
set_option linter.unusedSimpArgs false
set_option linter.unusedVariables false
open Go.RowKit

/-! ### Frames -/
def act (n : Nat) (f : Nat → Value) : Act := { tmps := ((List.range n).map f).toArray, defers := [] }
def upd (f : Nat → Value) (d : Nat) (v : Value) : Nat → Value := fun t => cond (Nat.beq t d) v (f t)
def putF (f : Nat → Value) : Option Tmp → Value → (Nat → Value)
  | some d, v => upd f d v
  | none, _ => f
def ev (n : Nat) (f : Nat → Value) : Operand → Value
  | .tmp t => cond (Nat.ble (t + 1) n) (f t) undef
  | .const v => v
  | .global g => .pointer (some ⟨g, 0, none⟩)
  | .func g => .func (.func g) #[] #[]
def u0 : Nat → Value := fun _ => undef

theorem act_get (n : Nat) (f : Nat → Value) (t : Nat) : (act n f).tmps.getD t undef = cond (Nat.ble (t + 1) n) (f t) undef := by
  by_cases h : t < n
  · have : Nat.ble (t + 1) n = true := Nat.ble_eq_true_of_le (by omega)
    simp [act, h, this]
  · have : Nat.ble (t + 1) n = false := by
      cases e : Nat.ble (t + 1) n
      · rfl
      · exact absurd (Nat.le_of_ble_eq_true e) (by omega)
    simp [act, h, this]
theorem act_eval (n : Nat) (f : Nat → Value) : (act n f).eval = ev n f := by
  funext x
  cases x <;> simp only [Act.eval, ev]
  exact act_get n f _
theorem act_put (n : Nat) (f : Nat → Value) (d : Option Tmp) (v : Value) : (act n f).put d v = act n (putF f d v) := by
  cases d with
  | none => rfl
  | some d =>
    simp only [Act.put, act, putF]
    congr 1
    apply Array.ext_getElem?
    intro i
    simp only [Array.getElem?_setIfInBounds, List.getElem?_toArray, List.getElem?_map, List.size_toArray, List.length_map, List.length_range]
    by_cases h : d = i
    · subst h
      by_cases hn : d < n
      · simp [hn, upd]
      · simp [hn]
    · rw [if_neg h]
      cases hi : (List.range n)[i]? with
      | none => rfl
      | some j =>
        obtain ⟨hj, rfl⟩ := List.getElem?_eq_some_iff.1 hi
        simp only [Option.map_some, List.getElem_range]
        have : Nat.beq i d = false := by
          cases e : Nat.beq i d
          · rfl
          · exact absurd (Nat.eq_of_beq_eq_true e) (fun e => h e.symm)
        simp [upd, this]
theorem act_congr {n : Nat} {f g : Nat → Value} (h : ∀ t, t < n → f t = g t) : act n f = act n g := by
  simp only [act]
  congr 2
  exact List.map_congr_left (fun t ht => h t (by simpa using ht))
theorem act_enter (n : Nat) (vs : List Value) (g : Nat → Value) (hl : vs.length ≤ n) (h : ∀ t, t < n → vs.getD t undef = g t) :
    ({ tmps := vs.toArray ++ Array.replicate (n - vs.toArray.size) undef, defers := [] } : Act) = act n g := by
  simp only [act]
  congr 1
  apply Array.ext_getElem?
  intro i
  simp only [List.getElem?_toArray, List.getElem?_map, Array.getElem?_append, List.size_toArray, Array.getElem?_replicate]
  by_cases h1 : i < vs.length
  · have h2 : i < n := by omega
    rw [if_pos h1, List.getElem?_range h2]
    simp only [Option.map_some]
    rw [← h i h2, List.getD_eq_getElem?_getD, List.getElem?_eq_getElem h1]; rfl
  · rw [if_neg h1]
    by_cases h2 : i < n
    · rw [if_pos (by omega), List.getElem?_range h2]
      simp only [Option.map_some]
      rw [← h i h2, List.getD_eq_getElem?_getD, List.getElem?_eq_none (by omega)]; rfl
    · rw [if_neg (by omega), List.getElem?_eq_none (by simp; omega)]; rfl

/-! ### One operation -/
/-- The operation o, in the frame f: it lays down one value, of which (with the world behind it) K holds. -/
structure Stp (P : Program) (n : Nat) (o : Oper) (f : Nat → Value) (W : World) (Q : Exit → Act → World → Prop) (K : Value → World → Prop) : Prop where
  out : o.wp P (act n f) W (fun a' w' => ∃ v, a' = act n (putF f o.dst v) ∧ K v w') Q

section
variable {P : Program} {n : Nat} {f : Nat → Value} {W : World} {Q : Exit → Act → World → Prop} {K : Value → World → Prop}

theorem Stp.mono {o : Oper} {K' : Value → World → Prop} (h : Stp P n o f W Q K) (hk : ∀ v w, K v w → K' v w) : Stp P n o f W Q K' :=
  ⟨Oper.wp_mono (fun _ _ ⟨v, e, k⟩ => ⟨v, e, hk v _ k⟩) h.out⟩
theorem Stp.run {o : Oper} {v : Value} {W' : World} (h : (execOp (ev n f) o).run P W = .ok (.value v) W') (k : K v W') : Stp P n o f W Q K := by
  refine ⟨?_⟩
  unfold Oper.wp
  rw [act_eval, h]
  exact ⟨v, by rw [act_put], k⟩
theorem Stp.unit {o : Oper} {W' : World} (h : (execOp (ev n f) o).run P W = .ok .skip W') (k : K undef W') : Stp P n o f W Q K := by
  refine ⟨?_⟩
  unfold Oper.wp
  rw [act_eval, h]
  exact ⟨undef, by rw [act_put], k⟩
/-- The rest of a region's list, in the frame f. A structure of its own: what elaborates a step does not look into it. -/
structure Wl (P : Program) (ops : Array Oper) (Q : Exit → Act → World → Prop) (rest : List Oper) (n : Nat) (f : Nat → Value) (W : World) : Prop where
  out : wpList P ops Q rest (act n f) W
/-- In a plain region's list. -/
theorem sx {o : Oper} {ops : Array Oper} {rest : List Oper} (hg : o.guard = none) (h : Stp P n o f W Q (fun v W' => Wl P ops Q rest n (putF f o.dst v) W')) : Wl P ops Q (o :: rest) n f W := by
  refine ⟨?_⟩
  unfold wpList
  rw [if_pos (by simp [Region.wanted, hg])]
  exact .inl (Oper.wp_mono (fun _ _ ⟨v, e, k⟩ => by rw [e]; exact k.out) h.out)
theorem sx_nil {ops : Array Oper} (h : Q .normal (act n f) W) : Wl P ops Q [] n f W := ⟨h⟩
theorem sx_region {id : Nat} {l : List Oper} (h : Wl P l.toArray Q l n f W) : (Code.region id l.toArray false).wp P Q (act n f) W := wp_region_lit h.out
theorem sx_if {c : Operand} {x y : Code} {t : Bool} (hc : ev n f c = .bool t) (ht : t = true → x.wp P Q (act n f) W) (hf : t = false → y.wp P Q (act n f) W) : (Code.cond c x y).wp P Q (act n f) W :=
  wp_cond_split (t := t) (by rw [act_eval]; exact hc) ht hf
theorem sx_t {c : Operand} {x y : Code} {t : Bool} (hc : ev n f c = .bool t) (h : t = true) (ht : x.wp P Q (act n f) W) : (Code.cond c x y).wp P Q (act n f) W :=
  sx_if hc (fun _ => ht) (fun h' => by rw [h] at h'; cases h')
theorem sx_f {c : Operand} {x y : Code} {t : Bool} (hc : ev n f c = .bool t) (h : t = false) (hf : y.wp P Q (act n f) W) : (Code.cond c x y).wp P Q (act n f) W :=
  sx_if hc (fun h' => by rw [h] at h'; cases h') (fun _ => hf)
theorem least {p : Nat → Prop} (h : ∃ m, p m) : ∃ m, p m ∧ ∀ k, p k → m ≤ k := by
  obtain ⟨m, hm⟩ := h
  induction m using Nat.strongRecOn with
  | _ m ih =>
    by_cases h : ∃ k, k < m ∧ p k
    · obtain ⟨k, hk, hp⟩ := h
      exact ih k hk hp
    · exact ⟨m, hm, fun k hk => Nat.le_of_not_lt (fun hlt => h ⟨k, hlt, hk⟩)⟩
/-- A loop, with its measure as a number that the relation knows. -/
theorem sx_loop {c : Code} (J : Nat → (Nat → Value) → World → Prop) (m0 : Nat) (h0 : J m0 f W)
    (round : ∀ m f W, J m f W → c.wp P (Exit.then (fun a' w' => ∃ f' m', m' < m ∧ a' = act n f' ∧ J m' f' w') Q) (act n f) W) : (Code.loop c).wp P Q (act n f) W := by
  classical
  let R : Act → World → Nat → Prop := fun a w m => ∃ f, a = act n f ∧ J m f w
  refine wp_loop (fun a w => ∃ m, R a w m) (fun a w => if h : ∃ m, R a w m then (least h).choose else 0) ⟨m0, f, rfl, h0⟩ ?_
  intro a w hI
  obtain ⟨g, rfl, hJ⟩ := (least hI).choose_spec.1
  refine Code.wp_mono ?_ (round _ g w hJ)
  intro e a' w' hq
  cases e with
  | normal =>
    obtain ⟨f', m', hlt, rfl, hJ'⟩ := hq
    have hI' : ∃ m, R (act n f') w' m := ⟨m', f', rfl, hJ'⟩
    refine ⟨hI', ?_⟩
    rw [dif_pos hI, dif_pos hI']
    exact Nat.lt_of_le_of_lt ((least hI').choose_spec.2 m' ⟨f', rfl, hJ'⟩) hlt
  | exit id => exact hq
  | goto l => exact hq
  | ret => exact hq
  | panic ch => exact hq
  | outgrown => exact hq
end
end Go.Proofs.YtchnllpegfbleaaDoor
