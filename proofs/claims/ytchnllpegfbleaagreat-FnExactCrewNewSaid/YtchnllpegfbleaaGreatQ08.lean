/-
  What is handed to a law, taken out of the row's reading: it is data in memory, as the walks want it.
  A law's arguments, taken out of the row's reading.
-/
import Derived.ProofKit
import Derived.OpenShut
import Derived.Test.YtchnllpegfbleaaGreatQ01
import Derived.Test.YtchnllpegfbleaaGreatQ07
namespace Go.Proofs.YtchnllpegfbleaaGreat
set_option linter.unusedSimpArgs false
set_option linter.unusedVariables false
set_option maxRecDepth 100000
open Go.ChangeShapes Go.WideShapes Go.ChangeAt Go.RowKit Go.Deep

def kG (t : TypeId) (α : Type) [Shape α] : Prop := ∀ {H : Type} (enc : TypeId × Value → H) (w : World) (fuel : Nat) (cs : List Value) (x : DataW H × List MemPlace),
  DataW.trod enc Tryz.prog w 0 (fun _ => true) true fuel t cs = some x → ∃ (a : α) (fp : List Nat), Shape.C w cs a fp

theorem gS {n : Int} (h : (Lit.int .i64 n).wf = true) : I64 n := by
  have := bounds_i64 h
  exact this

theorem jE {t e : TypeId} {α : Type} [Shape α] (ht : Tryz.prog.underlying t = some (.slice e)) (hC : Tryz.prog.cellsOf e = Shape.size α) (hp : 0 < Shape.size α) (he : kG e α) : kG t (List α) := by
  intro H enc w fuel cs x h
  rcases open_slice ht h with ⟨rfl, _⟩ | ⟨a, len, cap, m, n, D, Pl, rfl, _, hl, hm, hmm, _, hi⟩
  · exact ⟨[], [], _, rfl, none, 0, rfl, Nat.le_refl _, by omega, .inl ⟨rfl, rfl⟩⟩
  · simp only [if_true] at hmm
    subst hmm
    unfold maxLen at hm
    have key : ∀ k, k ≤ len → 0 < len → ∃ (xs : List α) (fp : List Nat), xs.length = k ∧ a.spot = none ∧ SlAt w a.block a.off xs fp := by
      intro k
      induction k with
      | zero =>
        intro _ hlp
        obtain ⟨cs', hc, _⟩ := hi 0 (by omega)
        obtain ⟨_, hcl, hat⟩ := World.cells?_some hc
        rw [hC] at hcl hat
        have h0 := hat 0 hp
        have : a.spot = none := by
          have hlt : 0 < cs'.length := by omega
          rw [List.getElem?_eq_getElem hlt] at h0
          simpa [Addr.add] using World.cell?_spot h0
        exact ⟨[], [], rfl, this, rfl⟩
      | succ k ih =>
        intro hk hlp
        obtain ⟨xs, fp, hxl, hsp, hS⟩ := ih (by omega) hlp
        obtain ⟨cs', hc, ht'⟩ := hi k (by omega)
        obtain ⟨_, hcl, hat⟩ := World.cells?_some hc
        rw [hC] at hcl hat
        obtain ⟨x, f, hx⟩ := he enc w n cs' _ ht'
        refine ⟨xs ++ [x], fp ++ f, by simp [hxl], hsp, SlAt.snoc hS ?_ hx⟩
        intro j v hj
        have hjl : j < cs'.length := (List.getElem?_eq_some_iff.1 hj).1
        have := hat j (by omega)
        rw [hj] at this
        rw [← this, hxl]
        obtain ⟨ab, ao, asp⟩ := a
        simp only at hsp
        subst hsp
        rw [Addr.add_mid, Addr.add_mid]
    by_cases hlp : 0 < len
    · obtain ⟨xs, fp, hxl, hsp, hS⟩ := key len (Nat.le_refl _) hlp
      obtain ⟨ab, ao, asp⟩ := a
      simp only at hsp
      subst hsp
      subst hxl
      have hne : xs ≠ [] := by rintro rfl; simp at hlp
      refine ⟨xs, ab :: fp, _, rfl, _, m, rfl, hl, hm, .inr ⟨ab, ao, fp, hne, rfl, rfl, ?_, hS⟩⟩
      cases xs with
      | nil => exact absurd rfl hne
      | cons x xs =>
        obtain ⟨cs', f1, f2, hr, hc, _, _⟩ := hS
        have hl' := Shape.len hc
        have h0 := hr 0 _ (List.getElem?_eq_getElem (by omega))
        exact World.block_lt_of_cell? w _ h0
    · obtain rfl : len = 0 := by omega
      exact ⟨[], [], _, rfl, _, m, rfl, by simp, hm, .inl ⟨rfl, rfl⟩⟩

theorem nG {H : Type} {enc : TypeId × Value → H} {W W' : World} (hl : laidOutB Tryz.prog = true) (hb : Below W.heap.size W W') : ∀ {ts : List TypeId} {vs : List Value} {ds : List (DataW H)} {p : List MemPlace},
    (∀ t ∈ ts, Tryz.prog.readableRec t = true ∧ t < Tryz.prog.types.size) → DataW.TrodAll enc Tryz.prog W 0 (fun _ => true) true ts vs ds p → (∀ x ∈ p, x.block < W.heap.size) →
    DataW.TrodAll enc Tryz.prog W' 0 (fun b => decide (b < W.heap.size)) true ts vs ds p
  | [], _, _, _, _, h, _ => by
    obtain ⟨rfl, rfl, rfl⟩ := trodAll_nil h
    exact trodAll_mk0
  | t :: ts, _, _, _, ht, h, hp => by
    obtain ⟨v1, vs1, d1, ds1, p1, q1, rfl, rfl, rfl, h1, r1⟩ := trodAll_cons h
    exact trodAll_cons_mk (Below.trod hl (ht t (by simp)).1 (ht t (by simp)).2 h1 hb (fun x hx => hp x (by simp [hx]))) (nG hl hb (fun t' h' => ht t' (by simp [h'])) r1 (fun x hx => hp x (by simp [hx])))

theorem open_param_struct {H : Type} {enc : TypeId × Value → H} {W : World} {base : Nat} {t : TypeId} {fs : Array Field} {α : Type} [Shape α] (ht : Tryz.prog.underlying t = some (.struct fs)) (ho : kG t α) {v : Value} {d : DataW H} {p : List MemPlace}
    (hv : Value.okWide Tryz.prog W .any base t v) (h : DataW.Trod enc Tryz.prog W 0 (fun _ => true) true t v d p) : ∃ (cs : List Value) (x : α) (fp : List Nat), v = .agg cs.toArray ∧ Shape.C W cs x fp := by
  obtain ⟨cs, rfl, hsz⟩ := okWide_struct ht hv
  obtain ⟨fuel, hf⟩ := h
  obtain ⟨x, fp, hc⟩ := ho enc W fuel _ _ hf
  exact ⟨cs.toList, x, fp, rfl, hc⟩
theorem open_param_int {H : Type} {enc : TypeId × Value → H} {W : World} {base : Nat} {v : Value} {d : DataW H} {p : List MemPlace}
    (hv : Value.okWide Tryz.prog W .any base 3 v) (h : DataW.Trod enc Tryz.prog W 0 (fun _ => true) true 3 v d p) : ∃ n : Int, v = .int .i64 n ∧ I64 n := by
  obtain ⟨n, rfl, _, _, wn⟩ := open_int Tryz.underlying3 hv h
  exact ⟨n, rfl, gS wn⟩
theorem ownKnobTry : ownKnob Tryz.prog.godebug = none := by kernel_rfl
theorem laidOutTry : laidOutB Tryz.prog = true := by kernel_rfl
end Go.Proofs.YtchnllpegfbleaaGreat
namespace Go.Proofs.YtchnllpegfbleaaGreat
set_option linter.unusedSimpArgs false
set_option linter.unusedVariables false
set_option maxRecDepth 100000
open Go.ChangeShapes Go.WideShapes Go.ChangeAt Go.RowKit Go.Deep

theorem opens_Edge : kG 228 Edge := by
  intro H enc w fuel cs x h
  obtain ⟨xs, n, _, hx, hl, hlen, hf⟩ := DataW.trod_struct Tryz.underlying228 h
  have hl' : cs.length = 2 := hl
  have hlen' : xs.length = 2 := hlen
  match cs, hl', xs, hlen' with
  | [c0, c1], _, [y0, y1], _ =>
    obtain ⟨n0, e0, _, w0⟩ := DataW.trod_int Tryz.underlying3 (hf 0 _ rfl)
    have e0' : [c0] = [I n0] := e0
    obtain rfl := List.singleton_inj.1 e0'
    obtain ⟨n1, e1, _, w1⟩ := DataW.trod_int Tryz.underlying3 (hf 1 _ rfl)
    have e1' : [c1] = [I n1] := e1
    obtain rfl := List.singleton_inj.1 e1'
    exact ⟨⟨n0, n1⟩, [], rfl, rfl, ⟨gS w0, gS w1⟩⟩
theorem opens_EdgeS : kG 94 (List Edge) := jE Tryz.underlying94 (by kernel_rfl) (by decide) opens_Edge
theorem opens_Plan : kG 96 Plan := by
  intro H enc w fuel cs x h
  obtain ⟨xs, n, _, hx, hl, hlen, hf⟩ := DataW.trod_struct Tryz.underlying96 h
  have hl' : cs.length = 5 := hl
  have hlen' : xs.length = 5 := hlen
  match cs, hl', xs, hlen' with
  | [c0, c1, c2, c3, c4], _, [y0, y1, y2, y3, y4], _ =>
    obtain ⟨n0, e0, _, w0⟩ := DataW.trod_int Tryz.underlying3 (hf 0 _ rfl)
    have e0' : [c0] = [I n0] := e0
    obtain rfl := List.singleton_inj.1 e0'
    obtain ⟨n1, e1, _, w1⟩ := DataW.trod_int Tryz.underlying3 (hf 1 _ rfl)
    have e1' : [c1] = [I n1] := e1
    obtain rfl := List.singleton_inj.1 e1'
    obtain ⟨n2, e2, _, w2⟩ := DataW.trod_int Tryz.underlying3 (hf 2 _ rfl)
    have e2' : [c2] = [I n2] := e2
    obtain rfl := List.singleton_inj.1 e2'
    obtain ⟨n3, e3, _, w3⟩ := DataW.trod_int Tryz.underlying3 (hf 3 _ rfl)
    have e3' : [c3] = [I n3] := e3
    obtain rfl := List.singleton_inj.1 e3'
    obtain ⟨l4, g4, u4, e4, s4⟩ := opens_EdgeS enc w n _ _ (hf 4 _ rfl)
    have e4' : [c4] = [u4] := e4
    obtain rfl := List.singleton_inj.1 e4'
    exact ⟨⟨n0, n1, n2, n3, l4⟩, _, _, g4, rfl, ⟨gS w0, gS w1, gS w2, gS w3⟩, s4, rfl⟩
theorem opens_Entry : kG 188 Entry := by
  intro H enc w fuel cs x h
  obtain ⟨xs, n, _, hx, hl, hlen, hf⟩ := DataW.trod_struct Tryz.underlying188 h
  have hl' : cs.length = 4 := hl
  have hlen' : xs.length = 4 := hlen
  match cs, hl', xs, hlen' with
  | [c0, c1, c2, c3], _, [y0, y1, y2, y3], _ =>
    obtain ⟨n0, e0, _, w0⟩ := DataW.trod_int Tryz.underlying3 (hf 0 _ rfl)
    have e0' : [c0] = [I n0] := e0
    obtain rfl := List.singleton_inj.1 e0'
    obtain ⟨n1, e1, _, w1⟩ := DataW.trod_int Tryz.underlying3 (hf 1 _ rfl)
    have e1' : [c1] = [I n1] := e1
    obtain rfl := List.singleton_inj.1 e1'
    obtain ⟨n2, e2, _, w2⟩ := DataW.trod_int Tryz.underlying3 (hf 2 _ rfl)
    have e2' : [c2] = [I n2] := e2
    obtain rfl := List.singleton_inj.1 e2'
    obtain ⟨n3, e3, _, w3⟩ := DataW.trod_int Tryz.underlying3 (hf 3 _ rfl)
    have e3' : [c3] = [I n3] := e3
    obtain rfl := List.singleton_inj.1 e3'
    exact ⟨⟨n0, n1, n2, n3⟩, [], rfl, rfl, ⟨gS w0, gS w1, gS w2, gS w3⟩⟩
theorem opens_EntryS : kG 134 (List Entry) := jE Tryz.underlying134 (by kernel_rfl) (by decide) opens_Entry
theorem opens_Task : kG 218 Task := by
  intro H enc w fuel cs x h
  obtain ⟨xs, n, _, hx, hl, hlen, hf⟩ := DataW.trod_struct Tryz.underlying218 h
  have hl' : cs.length = 4 := hl
  have hlen' : xs.length = 4 := hlen
  match cs, hl', xs, hlen' with
  | [c0, c1, c2, c3], _, [y0, y1, y2, y3], _ =>
    obtain ⟨n0, e0, _, w0⟩ := DataW.trod_int Tryz.underlying3 (hf 0 _ rfl)
    have e0' : [c0] = [I n0] := e0
    obtain rfl := List.singleton_inj.1 e0'
    obtain ⟨n1, e1, _, w1⟩ := DataW.trod_int Tryz.underlying3 (hf 1 _ rfl)
    have e1' : [c1] = [I n1] := e1
    obtain rfl := List.singleton_inj.1 e1'
    obtain ⟨n2, e2, _, w2⟩ := DataW.trod_int Tryz.underlying3 (hf 2 _ rfl)
    have e2' : [c2] = [I n2] := e2
    obtain rfl := List.singleton_inj.1 e2'
    obtain ⟨n3, e3, _, w3⟩ := DataW.trod_int Tryz.underlying3 (hf 3 _ rfl)
    have e3' : [c3] = [I n3] := e3
    obtain rfl := List.singleton_inj.1 e3'
    exact ⟨⟨n0, n1, n2, n3⟩, [], rfl, rfl, ⟨gS w0, gS w1, gS w2, gS w3⟩⟩
theorem opens_TaskS : kG 136 (List Task) := jE Tryz.underlying136 (by kernel_rfl) (by decide) opens_Task
theorem opens_Run : kG 138 Run := by
  intro H enc w fuel cs x h
  obtain ⟨xs, n, _, hx, hl, hlen, hf⟩ := DataW.trod_struct Tryz.underlying138 h
  have hl' : cs.length = 8 := hl
  have hlen' : xs.length = 4 := hlen
  match cs, hl', xs, hlen' with
  | [c0, c1, c2, c3, c4, c5, c6, c7], _, [y0, y1, y2, y3], _ =>
    obtain ⟨n0, e0, _, w0⟩ := DataW.trod_int Tryz.underlying3 (hf 0 _ rfl)
    have e0' : [c0] = [I n0] := e0
    obtain rfl := List.singleton_inj.1 e0'
    obtain ⟨z1, gz1, u1_0, g1_0, e1, ok1, s1_0, _⟩ := opens_Plan enc w n _ _ (hf 1 _ rfl)
    have e1' : [c1, c2, c3, c4, c5] = [I z1.prio, I z1.most, I z1.wait, I z1.tasks, u1_0] := e1
    simp only [List.cons.injEq, and_true] at e1'
    obtain ⟨rfl, rfl, rfl, rfl, rfl⟩ := e1'
    obtain ⟨n2, e2, _, w2⟩ := DataW.trod_int Tryz.underlying3 (hf 2 _ rfl)
    have e2' : [c6] = [I n2] := e2
    obtain rfl := List.singleton_inj.1 e2'
    obtain ⟨l3, g3, u3, e3, s3⟩ := opens_TaskS enc w n _ _ (hf 3 _ rfl)
    have e3' : [c7] = [u3] := e3
    obtain rfl := List.singleton_inj.1 e3'
    exact ⟨⟨n0, z1, n2, l3⟩, _, _, _, g1_0, g3, rfl, ⟨gS w0, ok1, gS w2⟩, s1_0, s3, rfl⟩
theorem opens_RunS : kG 23 (List Run) := jE Tryz.underlying23 (by kernel_rfl) (by decide) opens_Run
theorem opens_EntrySS : kG 22 (List (List Entry)) := jE Tryz.underlying22 (by kernel_rfl) (by decide) opens_EntryS
theorem opens_Yard : kG 25 Yard := by
  intro H enc w fuel cs x h
  obtain ⟨xs, n, _, hx, hl, hlen, hf⟩ := DataW.trod_struct Tryz.underlying25 h
  have hl' : cs.length = 4 := hl
  have hlen' : xs.length = 4 := hlen
  match cs, hl', xs, hlen' with
  | [c0, c1, c2, c3], _, [y0, y1, y2, y3], _ =>
    obtain ⟨n0, e0, _, w0⟩ := DataW.trod_int Tryz.underlying3 (hf 0 _ rfl)
    have e0' : [c0] = [I n0] := e0
    obtain rfl := List.singleton_inj.1 e0'
    obtain ⟨n1, e1, _, w1⟩ := DataW.trod_int Tryz.underlying3 (hf 1 _ rfl)
    have e1' : [c1] = [I n1] := e1
    obtain rfl := List.singleton_inj.1 e1'
    obtain ⟨l2, g2, u2, e2, s2⟩ := opens_EntrySS enc w n _ _ (hf 2 _ rfl)
    have e2' : [c2] = [u2] := e2
    obtain rfl := List.singleton_inj.1 e2'
    obtain ⟨l3, g3, u3, e3, s3⟩ := opens_RunS enc w n _ _ (hf 3 _ rfl)
    have e3' : [c3] = [u3] := e3
    obtain rfl := List.singleton_inj.1 e3'
    exact ⟨⟨n0, n1, l2, l3⟩, _, _, _, g2, g3, rfl, ⟨gS w0, gS w1⟩, s2, s3, rfl⟩
end Go.Proofs.YtchnllpegfbleaaGreat
