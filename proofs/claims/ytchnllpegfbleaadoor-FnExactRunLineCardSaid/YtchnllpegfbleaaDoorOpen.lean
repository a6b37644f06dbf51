/-
  What is handed to a law, taken out of the row's reading: it is data in memory, as the walks want it.
-/
import Derived.Test.YtchnllpegfbleaaDoorTypes
import Derived.ProofKit
import Derived.OpenShut
namespace Go.Proofs.YtchnllpegfbleaaDoor
set_option linter.unusedSimpArgs false
set_option linter.unusedVariables false
set_option maxRecDepth 100000
open Go.ChangeShapes Go.WideShapes Go.ChangeAt Go.RowKit Go.Deep

/-- Cells of type t that the row reads stand for an α. -/
def Opens (t : TypeId) (α : Type) [Shape α] : Prop := ∀ {H : Type} (enc : TypeId × Value → H) (w : World) (fuel : Nat) (cs : List Value) (x : DataW H × List MemPlace),
  DataW.trod enc Tryd.prog w 0 (fun _ => true) true fuel t cs = some x → ∃ (a : α) (fp : List Nat), Shape.C w cs a fp

theorem wf_I64 {n : Int} (h : (Lit.int .i64 n).wf = true) : I64 n := by
  have := bounds_i64 h
  exact this

theorem opens_int : Opens 3 Int := by
  intro H enc w fuel cs x h
  obtain ⟨n, rfl, _, hw⟩ := DataW.trod_int Tryd.underlying3 h
  exact ⟨n, [], rfl, rfl, wf_I64 hw⟩

theorem opens_slice {t e : TypeId} {α : Type} [Shape α] (ht : Tryd.prog.underlying t = some (.slice e)) (hC : Tryd.prog.cellsOf e = Shape.size α) (hp : 0 < Shape.size α) (he : Opens e α) : Opens t (List α) := by
  intro H enc w fuel cs x h
  rcases open_slice ht h with ⟨rfl, _⟩ | ⟨a, len, cap, m, n, D, Pl, rfl, _, hl, hm, hmm, _, hi⟩
  · exact ⟨[], [], _, rfl, none, 0, rfl, Nat.le_refl _, by omega, .inl ⟨rfl, rfl⟩⟩
  · simp only [if_true] at hmm
    subst hmm
    unfold maxLen at hm
    have key : ∀ k, k ≤ len → 0 < len → ∃ (xs : List α) (fp : List Nat), xs.length = k ∧ a.spot = none ∧ SlAt w a.block a.off xs fp := by
      intro k
      induction k with
      | zero =>
        intro _ hlp
        obtain ⟨cs', hc, _⟩ := hi 0 (by omega)
        obtain ⟨_, hcl, hat⟩ := World.cells?_some hc
        rw [hC] at hcl hat
        have h0 := hat 0 hp
        have : a.spot = none := by
          have hlt : 0 < cs'.length := by omega
          rw [List.getElem?_eq_getElem hlt] at h0
          simpa [Addr.add] using World.cell?_spot h0
        exact ⟨[], [], rfl, this, rfl⟩
      | succ k ih =>
        intro hk hlp
        obtain ⟨xs, fp, hxl, hsp, hS⟩ := ih (by omega) hlp
        obtain ⟨cs', hc, ht'⟩ := hi k (by omega)
        obtain ⟨_, hcl, hat⟩ := World.cells?_some hc
        rw [hC] at hcl hat
        obtain ⟨x, f, hx⟩ := he enc w n cs' _ ht'
        refine ⟨xs ++ [x], fp ++ f, by simp [hxl], hsp, SlAt.snoc hS ?_ hx⟩
        intro j v hj
        have hjl : j < cs'.length := (List.getElem?_eq_some_iff.1 hj).1
        have := hat j (by omega)
        rw [hj] at this
        rw [← this, hxl]
        obtain ⟨ab, ao, asp⟩ := a
        simp only at hsp
        subst hsp
        rw [Addr.add_mid, Addr.add_mid]
    by_cases hlp : 0 < len
    · obtain ⟨xs, fp, hxl, hsp, hS⟩ := key len (Nat.le_refl _) hlp
      obtain ⟨ab, ao, asp⟩ := a
      simp only at hsp
      subst hsp
      subst hxl
      have hne : xs ≠ [] := by rintro rfl; simp at hlp
      refine ⟨xs, ab :: fp, _, rfl, _, m, rfl, hl, hm, .inr ⟨ab, ao, fp, hne, rfl, rfl, ?_, hS⟩⟩
      cases xs with
      | nil => exact absurd rfl hne
      | cons x xs =>
        obtain ⟨cs', f1, f2, hr, hc, _, _⟩ := hS
        have hl' := Shape.len hc
        have h0 := hr 0 _ (List.getElem?_eq_getElem (by omega))
        exact World.block_lt_of_cell? w _ h0
    · obtain rfl : len = 0 := by omega
      exact ⟨[], [], _, rfl, _, m, rfl, by simp, hm, .inl ⟨rfl, rfl⟩⟩

theorem opens_bool : Opens 4 Bool := by
  intro H enc w fuel cs x h
  cases fuel with
  | zero => simp [DataW.trod] at h
  | succ n =>
    unfold DataW.trod at h
    rw [Tryd.underlying4] at h
    split at h <;> first | exact ⟨_, [], rfl, rfl, trivial⟩ | simp_all
theorem opens_string : Opens 9 ByteArray := by
  intro H enc w fuel cs x h
  obtain ⟨s, rfl, _, hs⟩ := DataW.trod_string Tryd.underlying9 h
  exact ⟨s, [], rfl, rfl, hs⟩

/-- The arguments of a call that let alone what was there read behind it as they read before. -/
theorem trodAll_below {H : Type} {enc : TypeId × Value → H} {W W' : World} (hl : laidOutB Tryd.prog = true) (hb : Below W.heap.size W W') : ∀ {ts : List TypeId} {vs : List Value} {ds : List (DataW H)} {p : List MemPlace},
    (∀ t ∈ ts, Tryd.prog.readableRec t = true ∧ t < Tryd.prog.types.size) → DataW.TrodAll enc Tryd.prog W 0 (fun _ => true) true ts vs ds p → (∀ x ∈ p, x.block < W.heap.size) →
    DataW.TrodAll enc Tryd.prog W' 0 (fun b => decide (b < W.heap.size)) true ts vs ds p
  | [], _, _, _, _, h, _ => by
    obtain ⟨rfl, rfl, rfl⟩ := trodAll_nil h
    exact trodAll_mk0
  | t :: ts, _, _, _, ht, h, hp => by
    obtain ⟨v1, vs1, d1, ds1, p1, q1, rfl, rfl, rfl, h1, r1⟩ := trodAll_cons h
    exact trodAll_cons_mk (Below.trod hl (ht t (by simp)).1 (ht t (by simp)).2 h1 hb (fun x hx => hp x (by simp [hx]))) (trodAll_below hl hb (fun t' h' => ht t' (by simp [h'])) r1 (fun x hx => hp x (by simp [hx])))

/-- A parameter that is a slice. -/
theorem open_param_slice {H : Type} {enc : TypeId × Value → H} {W : World} {base : Nat} {t e : TypeId} {α : Type} [Shape α] (ht : Tryd.prog.underlying t = some (.slice e)) (ho : Opens t (List α)) {v : Value} {d : DataW H} {p : List MemPlace}
    (hv : Value.okWide Tryd.prog W .any base t v) (h : DataW.Trod enc Tryd.prog W 0 (fun _ => true) true t v d p) : ∃ (xs : List α) (fp : List Nat), Sl W v xs fp := by
  obtain ⟨a, len, cap, rfl⟩ := okWide_slice ht hv
  obtain ⟨fuel, hf⟩ := h
  obtain ⟨xs, fp, v', hv', hs⟩ := ho enc W fuel _ _ hf
  have : v' = .slice a len cap := (List.singleton_inj.1 hv').symm
  subst this
  exact ⟨xs, fp, hs⟩
/-- A parameter that is a struct. -/
theorem open_param_struct {H : Type} {enc : TypeId × Value → H} {W : World} {base : Nat} {t : TypeId} {fs : Array Field} {α : Type} [Shape α] (ht : Tryd.prog.underlying t = some (.struct fs)) (ho : Opens t α) {v : Value} {d : DataW H} {p : List MemPlace}
    (hv : Value.okWide Tryd.prog W .any base t v) (h : DataW.Trod enc Tryd.prog W 0 (fun _ => true) true t v d p) : ∃ (cs : List Value) (x : α) (fp : List Nat), v = .agg cs.toArray ∧ Shape.C W cs x fp := by
  obtain ⟨cs, rfl, hsz⟩ := okWide_struct ht hv
  obtain ⟨fuel, hf⟩ := h
  obtain ⟨x, fp, hc⟩ := ho enc W fuel _ _ hf
  exact ⟨cs.toList, x, fp, rfl, hc⟩
/-- A parameter that is an int. -/
theorem open_param_int {H : Type} {enc : TypeId × Value → H} {W : World} {base : Nat} {v : Value} {d : DataW H} {p : List MemPlace}
    (hv : Value.okWide Tryd.prog W .any base 3 v) (h : DataW.Trod enc Tryd.prog W 0 (fun _ => true) true 3 v d p) : ∃ n : Int, v = .int .i64 n ∧ I64 n := by
  obtain ⟨n, rfl, _, _, wn⟩ := open_int Tryd.underlying3 hv h
  exact ⟨n, rfl, wf_I64 wn⟩
theorem ownKnobTry : ownKnob Tryd.prog.godebug = none := by kernel_rfl
theorem laidOutTry : laidOutB Tryd.prog = true := by kernel_rfl
end Go.Proofs.YtchnllpegfbleaaDoor
