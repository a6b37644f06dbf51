/-
  A law's arguments, taken out of the row's reading. (Printed by a program of this project's: wip/gentypes.py.)
-/
import Derived.Test.YtpkfgalpjaoebaaOpen
namespace Go.Proofs.Ytpkfgalpjaoebaa
set_option linter.unusedSimpArgs false
set_option linter.unusedVariables false
set_option maxRecDepth 100000
open Go.ChangeShapes Go.WideShapes Go.ChangeAt Go.RowKit Go.Deep

theorem opens_intS : Opens 27 (List Int) := opens_slice Try.underlying27 (by kernel_rfl) (by decide) opens_int
theorem opens_Edge : Opens 159 Edge := by
  intro H enc w fuel cs x h
  obtain ⟨xs, n, _, hx, hl, hlen, hf⟩ := DataW.trod_struct Try.underlying159 h
  have hl' : cs.length = 2 := hl
  have hlen' : xs.length = 2 := hlen
  match cs, hl', xs, hlen' with
  | [c0, c1], _, [y0, y1], _ =>
    obtain ⟨n0, e0, _, w0⟩ := DataW.trod_int Try.underlying3 (hf 0 _ rfl)
    have e0' : [c0] = [I n0] := e0
    obtain rfl := List.singleton_inj.1 e0'
    obtain ⟨n1, e1, _, w1⟩ := DataW.trod_int Try.underlying3 (hf 1 _ rfl)
    have e1' : [c1] = [I n1] := e1
    obtain rfl := List.singleton_inj.1 e1'
    exact ⟨⟨n0, n1⟩, [], rfl, rfl, ⟨wf_I64 w0, wf_I64 w1⟩⟩
theorem opens_EdgeS : Opens 95 (List Edge) := opens_slice Try.underlying95 (by kernel_rfl) (by decide) opens_Edge
theorem opens_Plan : Opens 97 Plan := by
  intro H enc w fuel cs x h
  obtain ⟨xs, n, _, hx, hl, hlen, hf⟩ := DataW.trod_struct Try.underlying97 h
  have hl' : cs.length = 5 := hl
  have hlen' : xs.length = 5 := hlen
  match cs, hl', xs, hlen' with
  | [c0, c1, c2, c3, c4], _, [y0, y1, y2, y3, y4], _ =>
    obtain ⟨n0, e0, _, w0⟩ := DataW.trod_int Try.underlying3 (hf 0 _ rfl)
    have e0' : [c0] = [I n0] := e0
    obtain rfl := List.singleton_inj.1 e0'
    obtain ⟨n1, e1, _, w1⟩ := DataW.trod_int Try.underlying3 (hf 1 _ rfl)
    have e1' : [c1] = [I n1] := e1
    obtain rfl := List.singleton_inj.1 e1'
    obtain ⟨n2, e2, _, w2⟩ := DataW.trod_int Try.underlying3 (hf 2 _ rfl)
    have e2' : [c2] = [I n2] := e2
    obtain rfl := List.singleton_inj.1 e2'
    obtain ⟨n3, e3, _, w3⟩ := DataW.trod_int Try.underlying3 (hf 3 _ rfl)
    have e3' : [c3] = [I n3] := e3
    obtain rfl := List.singleton_inj.1 e3'
    obtain ⟨l4, g4, u4, e4, s4⟩ := opens_EdgeS enc w n _ _ (hf 4 _ rfl)
    have e4' : [c4] = [u4] := e4
    obtain rfl := List.singleton_inj.1 e4'
    exact ⟨⟨n0, n1, n2, n3, l4⟩, _, _, g4, rfl, ⟨wf_I64 w0, wf_I64 w1, wf_I64 w2, wf_I64 w3⟩, s4, rfl⟩
theorem opens_Entry : Opens 135 Entry := by
  intro H enc w fuel cs x h
  obtain ⟨xs, n, _, hx, hl, hlen, hf⟩ := DataW.trod_struct Try.underlying135 h
  have hl' : cs.length = 4 := hl
  have hlen' : xs.length = 4 := hlen
  match cs, hl', xs, hlen' with
  | [c0, c1, c2, c3], _, [y0, y1, y2, y3], _ =>
    obtain ⟨n0, e0, _, w0⟩ := DataW.trod_int Try.underlying3 (hf 0 _ rfl)
    have e0' : [c0] = [I n0] := e0
    obtain rfl := List.singleton_inj.1 e0'
    obtain ⟨n1, e1, _, w1⟩ := DataW.trod_int Try.underlying3 (hf 1 _ rfl)
    have e1' : [c1] = [I n1] := e1
    obtain rfl := List.singleton_inj.1 e1'
    obtain ⟨n2, e2, _, w2⟩ := DataW.trod_int Try.underlying3 (hf 2 _ rfl)
    have e2' : [c2] = [I n2] := e2
    obtain rfl := List.singleton_inj.1 e2'
    obtain ⟨n3, e3, _, w3⟩ := DataW.trod_int Try.underlying3 (hf 3 _ rfl)
    have e3' : [c3] = [I n3] := e3
    obtain rfl := List.singleton_inj.1 e3'
    exact ⟨⟨n0, n1, n2, n3⟩, [], rfl, rfl, ⟨wf_I64 w0, wf_I64 w1, wf_I64 w2, wf_I64 w3⟩⟩
theorem opens_EntryS : Opens 93 (List Entry) := opens_slice Try.underlying93 (by kernel_rfl) (by decide) opens_Entry
theorem opens_Task : Opens 154 Task := by
  intro H enc w fuel cs x h
  obtain ⟨xs, n, _, hx, hl, hlen, hf⟩ := DataW.trod_struct Try.underlying154 h
  have hl' : cs.length = 4 := hl
  have hlen' : xs.length = 4 := hlen
  match cs, hl', xs, hlen' with
  | [c0, c1, c2, c3], _, [y0, y1, y2, y3], _ =>
    obtain ⟨n0, e0, _, w0⟩ := DataW.trod_int Try.underlying3 (hf 0 _ rfl)
    have e0' : [c0] = [I n0] := e0
    obtain rfl := List.singleton_inj.1 e0'
    obtain ⟨n1, e1, _, w1⟩ := DataW.trod_int Try.underlying3 (hf 1 _ rfl)
    have e1' : [c1] = [I n1] := e1
    obtain rfl := List.singleton_inj.1 e1'
    obtain ⟨n2, e2, _, w2⟩ := DataW.trod_int Try.underlying3 (hf 2 _ rfl)
    have e2' : [c2] = [I n2] := e2
    obtain rfl := List.singleton_inj.1 e2'
    obtain ⟨n3, e3, _, w3⟩ := DataW.trod_int Try.underlying3 (hf 3 _ rfl)
    have e3' : [c3] = [I n3] := e3
    obtain rfl := List.singleton_inj.1 e3'
    exact ⟨⟨n0, n1, n2, n3⟩, [], rfl, rfl, ⟨wf_I64 w0, wf_I64 w1, wf_I64 w2, wf_I64 w3⟩⟩
theorem opens_TaskS : Opens 98 (List Task) := opens_slice Try.underlying98 (by kernel_rfl) (by decide) opens_Task
theorem opens_Run : Opens 100 Run := by
  intro H enc w fuel cs x h
  obtain ⟨xs, n, _, hx, hl, hlen, hf⟩ := DataW.trod_struct Try.underlying100 h
  have hl' : cs.length = 8 := hl
  have hlen' : xs.length = 4 := hlen
  match cs, hl', xs, hlen' with
  | [c0, c1, c2, c3, c4, c5, c6, c7], _, [y0, y1, y2, y3], _ =>
    obtain ⟨n0, e0, _, w0⟩ := DataW.trod_int Try.underlying3 (hf 0 _ rfl)
    have e0' : [c0] = [I n0] := e0
    obtain rfl := List.singleton_inj.1 e0'
    obtain ⟨z1, gz1, u1_0, g1_0, e1, ok1, s1_0, _⟩ := opens_Plan enc w n _ _ (hf 1 _ rfl)
    have e1' : [c1, c2, c3, c4, c5] = [I z1.prio, I z1.most, I z1.wait, I z1.tasks, u1_0] := e1
    simp only [List.cons.injEq, and_true] at e1'
    obtain ⟨rfl, rfl, rfl, rfl, rfl⟩ := e1'
    obtain ⟨n2, e2, _, w2⟩ := DataW.trod_int Try.underlying3 (hf 2 _ rfl)
    have e2' : [c6] = [I n2] := e2
    obtain rfl := List.singleton_inj.1 e2'
    obtain ⟨l3, g3, u3, e3, s3⟩ := opens_TaskS enc w n _ _ (hf 3 _ rfl)
    have e3' : [c7] = [u3] := e3
    obtain rfl := List.singleton_inj.1 e3'
    exact ⟨⟨n0, z1, n2, l3⟩, _, _, _, g1_0, g3, rfl, ⟨wf_I64 w0, ok1, wf_I64 w2⟩, s1_0, s3, rfl⟩
theorem opens_RunS : Opens 23 (List Run) := opens_slice Try.underlying23 (by kernel_rfl) (by decide) opens_Run
theorem opens_EntrySS : Opens 22 (List (List Entry)) := opens_slice Try.underlying22 (by kernel_rfl) (by decide) opens_EntryS
theorem opens_Yard : Opens 25 Yard := by
  intro H enc w fuel cs x h
  obtain ⟨xs, n, _, hx, hl, hlen, hf⟩ := DataW.trod_struct Try.underlying25 h
  have hl' : cs.length = 4 := hl
  have hlen' : xs.length = 4 := hlen
  match cs, hl', xs, hlen' with
  | [c0, c1, c2, c3], _, [y0, y1, y2, y3], _ =>
    obtain ⟨n0, e0, _, w0⟩ := DataW.trod_int Try.underlying3 (hf 0 _ rfl)
    have e0' : [c0] = [I n0] := e0
    obtain rfl := List.singleton_inj.1 e0'
    obtain ⟨n1, e1, _, w1⟩ := DataW.trod_int Try.underlying3 (hf 1 _ rfl)
    have e1' : [c1] = [I n1] := e1
    obtain rfl := List.singleton_inj.1 e1'
    obtain ⟨l2, g2, u2, e2, s2⟩ := opens_EntrySS enc w n _ _ (hf 2 _ rfl)
    have e2' : [c2] = [u2] := e2
    obtain rfl := List.singleton_inj.1 e2'
    obtain ⟨l3, g3, u3, e3, s3⟩ := opens_RunS enc w n _ _ (hf 3 _ rfl)
    have e3' : [c3] = [u3] := e3
    obtain rfl := List.singleton_inj.1 e3'
    exact ⟨⟨n0, n1, l2, l3⟩, _, _, _, g2, g3, rfl, ⟨wf_I64 w0, wf_I64 w1⟩, s2, s3, rfl⟩
theorem opens_Reply : Opens 118 Reply := by
  intro H enc w fuel cs x h
  obtain ⟨xs, n, _, hx, hl, hlen, hf⟩ := DataW.trod_struct Try.underlying118 h
  have hl' : cs.length = 4 := hl
  have hlen' : xs.length = 4 := hlen
  match cs, hl', xs, hlen' with
  | [c0, c1, c2, c3], _, [y0, y1, y2, y3], _ =>
    obtain ⟨n0, e0, _, w0⟩ := DataW.trod_int Try.underlying3 (hf 0 _ rfl)
    have e0' : [c0] = [I n0] := e0
    obtain rfl := List.singleton_inj.1 e0'
    obtain ⟨n1, e1, _, w1⟩ := DataW.trod_int Try.underlying3 (hf 1 _ rfl)
    have e1' : [c1] = [I n1] := e1
    obtain rfl := List.singleton_inj.1 e1'
    obtain ⟨n2, e2, _, w2⟩ := DataW.trod_int Try.underlying3 (hf 2 _ rfl)
    have e2' : [c2] = [I n2] := e2
    obtain rfl := List.singleton_inj.1 e2'
    obtain ⟨n3, e3, _, w3⟩ := DataW.trod_int Try.underlying3 (hf 3 _ rfl)
    have e3' : [c3] = [I n3] := e3
    obtain rfl := List.singleton_inj.1 e3'
    exact ⟨⟨n0, n1, n2, n3⟩, [], rfl, rfl, ⟨wf_I64 w0, wf_I64 w1, wf_I64 w2, wf_I64 w3⟩⟩
theorem opens_Wait : Opens 120 Wait := by
  intro H enc w fuel cs x h
  obtain ⟨xs, n, _, hx, hl, hlen, hf⟩ := DataW.trod_struct Try.underlying120 h
  have hl' : cs.length = 5 := hl
  have hlen' : xs.length = 2 := hlen
  match cs, hl', xs, hlen' with
  | [c0, c1, c2, c3, c4], _, [y0, y1], _ =>
    obtain ⟨n0, e0, _, w0⟩ := DataW.trod_int Try.underlying3 (hf 0 _ rfl)
    have e0' : [c0] = [I n0] := e0
    obtain rfl := List.singleton_inj.1 e0'
    obtain ⟨z1, gz1, e1, _, ok1⟩ := opens_Reply enc w n _ _ (hf 1 _ rfl)
    have e1' : [c1, c2, c3, c4] = [I z1.code, I z1.run, I z1.task, I z1.try_] := e1
    simp only [List.cons.injEq, and_true] at e1'
    obtain ⟨rfl, rfl, rfl, rfl⟩ := e1'
    exact ⟨⟨n0, z1⟩, [], rfl, rfl, ⟨wf_I64 w0, ok1⟩⟩
theorem opens_WaitS : Opens 42 (List Wait) := opens_slice Try.underlying42 (by kernel_rfl) (by decide) opens_Wait
theorem opens_File : Opens 145 File := by
  intro H enc w fuel cs x h
  obtain ⟨xs, n, _, hx, hl, hlen, hf⟩ := DataW.trod_struct Try.underlying145 h
  have hl' : cs.length = 3 := hl
  have hlen' : xs.length = 3 := hlen
  match cs, hl', xs, hlen' with
  | [c0, c1, c2], _, [y0, y1, y2], _ =>
    obtain ⟨s0, fs0, e0, _, ws0⟩ := opens_string enc w n _ _ (hf 0 _ rfl)
    have e0' : [c0] = [.string s0] := e0
    obtain rfl := List.singleton_inj.1 e0'
    obtain ⟨s1, fs1, e1, _, ws1⟩ := opens_string enc w n _ _ (hf 1 _ rfl)
    have e1' : [c1] = [.string s1] := e1
    obtain rfl := List.singleton_inj.1 e1'
    obtain ⟨n2, e2, _, w2⟩ := DataW.trod_int Try.underlying3 (hf 2 _ rfl)
    have e2' : [c2] = [I n2] := e2
    obtain rfl := List.singleton_inj.1 e2'
    exact ⟨⟨s0, s1, n2⟩, [], rfl, rfl, ⟨ws0, ws1, wf_I64 w2⟩⟩
theorem opens_FileS : Opens 39 (List File) := opens_slice Try.underlying39 (by kernel_rfl) (by decide) opens_File
theorem opens_Disk : Opens 41 Disk := by
  intro H enc w fuel cs x h
  obtain ⟨xs, n, _, hx, hl, hlen, hf⟩ := DataW.trod_struct Try.underlying41 h
  have hl' : cs.length = 1 := hl
  have hlen' : xs.length = 1 := hlen
  match cs, hl', xs, hlen' with
  | [c0], _, [y0], _ =>
    obtain ⟨l0, g0, u0, e0, s0⟩ := opens_FileS enc w n _ _ (hf 0 _ rfl)
    have e0' : [c0] = [u0] := e0
    obtain rfl := List.singleton_inj.1 e0'
    exact ⟨⟨l0⟩, _, _, g0, rfl, trivial, s0, rfl⟩
theorem opens_Engine : Opens 44 Engine := by
  intro H enc w fuel cs x h
  obtain ⟨xs, n, _, hx, hl, hlen, hf⟩ := DataW.trod_struct Try.underlying44 h
  have hl' : cs.length = 10 := hl
  have hlen' : xs.length = 7 := hlen
  match cs, hl', xs, hlen' with
  | [c0, c1, c2, c3, c4, c5, c6, c7, c8, c9], _, [y0, y1, y2, y3, y4, y5, y6], _ =>
    obtain ⟨z0, gz0, u0_0, u0_1, g0_0, g0_1, e0, ok0, s0_0, s0_1, _⟩ := opens_Yard enc w n _ _ (hf 0 _ rfl)
    have e0' : [c0, c1, c2, c3] = [I z0.now, I z0.seq, u0_0, u0_1] := e0
    simp only [List.cons.injEq, and_true] at e0'
    obtain ⟨rfl, rfl, rfl, rfl⟩ := e0'
    obtain ⟨z1, gz1, u1_0, g1_0, e1, ok1, s1_0, _⟩ := opens_Disk enc w n _ _ (hf 1 _ rfl)
    have e1' : [c4] = [u1_0] := e1
    simp only [List.cons.injEq, and_true] at e1'
    obtain rfl := e1'
    obtain ⟨n2, e2, _, w2⟩ := DataW.trod_int Try.underlying3 (hf 2 _ rfl)
    have e2' : [c5] = [I n2] := e2
    obtain rfl := List.singleton_inj.1 e2'
    obtain ⟨n3, e3, _, w3⟩ := DataW.trod_int Try.underlying3 (hf 3 _ rfl)
    have e3' : [c6] = [I n3] := e3
    obtain rfl := List.singleton_inj.1 e3'
    obtain ⟨l4, g4, u4, e4, s4⟩ := opens_WaitS enc w n _ _ (hf 4 _ rfl)
    have e4' : [c7] = [u4] := e4
    obtain rfl := List.singleton_inj.1 e4'
    obtain ⟨n5, e5, _, w5⟩ := DataW.trod_int Try.underlying3 (hf 5 _ rfl)
    have e5' : [c8] = [I n5] := e5
    obtain rfl := List.singleton_inj.1 e5'
    obtain ⟨b6, fb6, e6, _⟩ := opens_bool enc w n _ _ (hf 6 _ rfl)
    have e6' : [c9] = [.bool b6] := e6
    obtain rfl := List.singleton_inj.1 e6'
    exact ⟨⟨z0, z1, n2, n3, l4, n5, b6⟩, _, _, _, _, _, g0_0, g0_1, g1_0, g4, rfl, ⟨ok0, wf_I64 w2, wf_I64 w3, wf_I64 w5⟩, s0_0, s0_1, s1_0, s4, rfl⟩
end Go.Proofs.Ytpkfgalpjaoebaa
