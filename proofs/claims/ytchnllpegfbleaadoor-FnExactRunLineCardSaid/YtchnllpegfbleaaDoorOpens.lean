/-
  A law's arguments, taken out of the row's reading. (Printed by a program of this project's: wip/gentypes.py.)
-/
import Derived.Test.YtchnllpegfbleaaDoorOpen
namespace Go.Proofs.YtchnllpegfbleaaDoor
set_option linter.unusedSimpArgs false
set_option linter.unusedVariables false
set_option maxRecDepth 100000
open Go.ChangeShapes Go.WideShapes Go.ChangeAt Go.RowKit Go.Deep

theorem opens_intS : Opens 73 (List Int) := opens_slice Tryd.underlying73 (by kernel_rfl) (by decide) opens_int
theorem opens_Edge : Opens 105 Edge := by
  intro H enc w fuel cs x h
  obtain ⟨xs, n, _, hx, hl, hlen, hf⟩ := DataW.trod_struct Tryd.underlying105 h
  have hl' : cs.length = 2 := hl
  have hlen' : xs.length = 2 := hlen
  match cs, hl', xs, hlen' with
  | [c0, c1], _, [y0, y1], _ =>
    obtain ⟨n0, e0, _, w0⟩ := DataW.trod_int Tryd.underlying3 (hf 0 _ rfl)
    have e0' : [c0] = [I n0] := e0
    obtain rfl := List.singleton_inj.1 e0'
    obtain ⟨n1, e1, _, w1⟩ := DataW.trod_int Tryd.underlying3 (hf 1 _ rfl)
    have e1' : [c1] = [I n1] := e1
    obtain rfl := List.singleton_inj.1 e1'
    exact ⟨⟨n0, n1⟩, [], rfl, rfl, ⟨wf_I64 w0, wf_I64 w1⟩⟩
theorem opens_EdgeS : Opens 28 (List Edge) := opens_slice Tryd.underlying28 (by kernel_rfl) (by decide) opens_Edge
theorem opens_Plan : Opens 30 Plan := by
  intro H enc w fuel cs x h
  obtain ⟨xs, n, _, hx, hl, hlen, hf⟩ := DataW.trod_struct Tryd.underlying30 h
  have hl' : cs.length = 5 := hl
  have hlen' : xs.length = 5 := hlen
  match cs, hl', xs, hlen' with
  | [c0, c1, c2, c3, c4], _, [y0, y1, y2, y3, y4], _ =>
    obtain ⟨n0, e0, _, w0⟩ := DataW.trod_int Tryd.underlying3 (hf 0 _ rfl)
    have e0' : [c0] = [I n0] := e0
    obtain rfl := List.singleton_inj.1 e0'
    obtain ⟨n1, e1, _, w1⟩ := DataW.trod_int Tryd.underlying3 (hf 1 _ rfl)
    have e1' : [c1] = [I n1] := e1
    obtain rfl := List.singleton_inj.1 e1'
    obtain ⟨n2, e2, _, w2⟩ := DataW.trod_int Tryd.underlying3 (hf 2 _ rfl)
    have e2' : [c2] = [I n2] := e2
    obtain rfl := List.singleton_inj.1 e2'
    obtain ⟨n3, e3, _, w3⟩ := DataW.trod_int Tryd.underlying3 (hf 3 _ rfl)
    have e3' : [c3] = [I n3] := e3
    obtain rfl := List.singleton_inj.1 e3'
    obtain ⟨l4, g4, u4, e4, s4⟩ := opens_EdgeS enc w n _ _ (hf 4 _ rfl)
    have e4' : [c4] = [u4] := e4
    obtain rfl := List.singleton_inj.1 e4'
    exact ⟨⟨n0, n1, n2, n3, l4⟩, _, _, g4, rfl, ⟨wf_I64 w0, wf_I64 w1, wf_I64 w2, wf_I64 w3⟩, s4, rfl⟩
theorem opens_Task : Opens 94 Task := by
  intro H enc w fuel cs x h
  obtain ⟨xs, n, _, hx, hl, hlen, hf⟩ := DataW.trod_struct Tryd.underlying94 h
  have hl' : cs.length = 4 := hl
  have hlen' : xs.length = 4 := hlen
  match cs, hl', xs, hlen' with
  | [c0, c1, c2, c3], _, [y0, y1, y2, y3], _ =>
    obtain ⟨n0, e0, _, w0⟩ := DataW.trod_int Tryd.underlying3 (hf 0 _ rfl)
    have e0' : [c0] = [I n0] := e0
    obtain rfl := List.singleton_inj.1 e0'
    obtain ⟨n1, e1, _, w1⟩ := DataW.trod_int Tryd.underlying3 (hf 1 _ rfl)
    have e1' : [c1] = [I n1] := e1
    obtain rfl := List.singleton_inj.1 e1'
    obtain ⟨n2, e2, _, w2⟩ := DataW.trod_int Tryd.underlying3 (hf 2 _ rfl)
    have e2' : [c2] = [I n2] := e2
    obtain rfl := List.singleton_inj.1 e2'
    obtain ⟨n3, e3, _, w3⟩ := DataW.trod_int Tryd.underlying3 (hf 3 _ rfl)
    have e3' : [c3] = [I n3] := e3
    obtain rfl := List.singleton_inj.1 e3'
    exact ⟨⟨n0, n1, n2, n3⟩, [], rfl, rfl, ⟨wf_I64 w0, wf_I64 w1, wf_I64 w2, wf_I64 w3⟩⟩
theorem opens_TaskS : Opens 31 (List Task) := opens_slice Tryd.underlying31 (by kernel_rfl) (by decide) opens_Task
theorem opens_Run : Opens 33 Run := by
  intro H enc w fuel cs x h
  obtain ⟨xs, n, _, hx, hl, hlen, hf⟩ := DataW.trod_struct Tryd.underlying33 h
  have hl' : cs.length = 8 := hl
  have hlen' : xs.length = 4 := hlen
  match cs, hl', xs, hlen' with
  | [c0, c1, c2, c3, c4, c5, c6, c7], _, [y0, y1, y2, y3], _ =>
    obtain ⟨n0, e0, _, w0⟩ := DataW.trod_int Tryd.underlying3 (hf 0 _ rfl)
    have e0' : [c0] = [I n0] := e0
    obtain rfl := List.singleton_inj.1 e0'
    obtain ⟨z1, gz1, u1_0, g1_0, e1, ok1, s1_0, _⟩ := opens_Plan enc w n _ _ (hf 1 _ rfl)
    have e1' : [c1, c2, c3, c4, c5] = [I z1.prio, I z1.most, I z1.wait, I z1.tasks, u1_0] := e1
    simp only [List.cons.injEq, and_true] at e1'
    obtain ⟨rfl, rfl, rfl, rfl, rfl⟩ := e1'
    obtain ⟨n2, e2, _, w2⟩ := DataW.trod_int Tryd.underlying3 (hf 2 _ rfl)
    have e2' : [c6] = [I n2] := e2
    obtain rfl := List.singleton_inj.1 e2'
    obtain ⟨l3, g3, u3, e3, s3⟩ := opens_TaskS enc w n _ _ (hf 3 _ rfl)
    have e3' : [c7] = [u3] := e3
    obtain rfl := List.singleton_inj.1 e3'
    exact ⟨⟨n0, z1, n2, l3⟩, _, _, _, g1_0, g3, rfl, ⟨wf_I64 w0, ok1, wf_I64 w2⟩, s1_0, s3, rfl⟩
theorem opens_Reply : Opens 23 Reply := by
  intro H enc w fuel cs x h
  obtain ⟨xs, n, _, hx, hl, hlen, hf⟩ := DataW.trod_struct Tryd.underlying23 h
  have hl' : cs.length = 4 := hl
  have hlen' : xs.length = 4 := hlen
  match cs, hl', xs, hlen' with
  | [c0, c1, c2, c3], _, [y0, y1, y2, y3], _ =>
    obtain ⟨n0, e0, _, w0⟩ := DataW.trod_int Tryd.underlying3 (hf 0 _ rfl)
    have e0' : [c0] = [I n0] := e0
    obtain rfl := List.singleton_inj.1 e0'
    obtain ⟨n1, e1, _, w1⟩ := DataW.trod_int Tryd.underlying3 (hf 1 _ rfl)
    have e1' : [c1] = [I n1] := e1
    obtain rfl := List.singleton_inj.1 e1'
    obtain ⟨n2, e2, _, w2⟩ := DataW.trod_int Tryd.underlying3 (hf 2 _ rfl)
    have e2' : [c2] = [I n2] := e2
    obtain rfl := List.singleton_inj.1 e2'
    obtain ⟨n3, e3, _, w3⟩ := DataW.trod_int Tryd.underlying3 (hf 3 _ rfl)
    have e3' : [c3] = [I n3] := e3
    obtain rfl := List.singleton_inj.1 e3'
    exact ⟨⟨n0, n1, n2, n3⟩, [], rfl, rfl, ⟨wf_I64 w0, wf_I64 w1, wf_I64 w2, wf_I64 w3⟩⟩
theorem opens_Deed : Opens 46 Deed := by
  intro H enc w fuel cs x h
  obtain ⟨xs, n, _, hx, hl, hlen, hf⟩ := DataW.trod_struct Tryd.underlying46 h
  have hl' : cs.length = 11 := hl
  have hlen' : xs.length = 7 := hlen
  match cs, hl', xs, hlen' with
  | [c0, c1, c2, c3, c4, c5, c6, c7, c8, c9, c10], _, [y0, y1, y2, y3, y4, y5, y6], _ =>
    obtain ⟨n0, e0, _, w0⟩ := DataW.trod_int Tryd.underlying3 (hf 0 _ rfl)
    have e0' : [c0] = [I n0] := e0
    obtain rfl := List.singleton_inj.1 e0'
    obtain ⟨n1, e1, _, w1⟩ := DataW.trod_int Tryd.underlying3 (hf 1 _ rfl)
    have e1' : [c1] = [I n1] := e1
    obtain rfl := List.singleton_inj.1 e1'
    obtain ⟨z2, gz2, u2_0, g2_0, e2, ok2, s2_0, _⟩ := opens_Plan enc w n _ _ (hf 2 _ rfl)
    have e2' : [c2, c3, c4, c5, c6] = [I z2.prio, I z2.most, I z2.wait, I z2.tasks, u2_0] := e2
    simp only [List.cons.injEq, and_true] at e2'
    obtain ⟨rfl, rfl, rfl, rfl, rfl⟩ := e2'
    obtain ⟨n3, e3, _, w3⟩ := DataW.trod_int Tryd.underlying3 (hf 3 _ rfl)
    have e3' : [c7] = [I n3] := e3
    obtain rfl := List.singleton_inj.1 e3'
    obtain ⟨n4, e4, _, w4⟩ := DataW.trod_int Tryd.underlying3 (hf 4 _ rfl)
    have e4' : [c8] = [I n4] := e4
    obtain rfl := List.singleton_inj.1 e4'
    obtain ⟨n5, e5, _, w5⟩ := DataW.trod_int Tryd.underlying3 (hf 5 _ rfl)
    have e5' : [c9] = [I n5] := e5
    obtain rfl := List.singleton_inj.1 e5'
    obtain ⟨n6, e6, _, w6⟩ := DataW.trod_int Tryd.underlying3 (hf 6 _ rfl)
    have e6' : [c10] = [I n6] := e6
    obtain rfl := List.singleton_inj.1 e6'
    exact ⟨⟨n0, n1, z2, n3, n4, n5, n6⟩, _, _, g2_0, rfl, ⟨wf_I64 w0, wf_I64 w1, ok2, wf_I64 w3, wf_I64 w4, wf_I64 w5, wf_I64 w6⟩, s2_0, rfl⟩
end Go.Proofs.YtchnllpegfbleaaDoor
