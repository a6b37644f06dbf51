/-
  A law's arguments, taken out of the row's reading. (Printed by a program of this project's: wip/gentypes.py.)
-/
import Derived.Test.YtanpcpoogkdlaaaGreatQ06
namespace Go.Proofs.YtanpcpoogkdlaaaGreat
set_option linter.unusedSimpArgs false
set_option linter.unusedVariables false
set_option maxRecDepth 100000
set_option maxHeartbeats 2000000
open Go.ChangeShapes Go.WideShapes Go.ChangeAt Go.RowKit Go.Deep
theorem opens_Edge : fN 348 Edge := by
 intro H enc w fuel cs x h
 obtain ⟨xs, n, _, hx, hl, hlen, hf⟩ := DataW.trod_struct Tryz.underlying348 h
 have hl' : cs.length = 2 := hl
 have hlen' : xs.length = 2 := hlen
 match cs, hl', xs, hlen' with
 | [c0, c1], _, [y0, y1], _ =>
  obtain ⟨n0, e0, _, w0⟩ := DataW.trod_int Tryz.underlying3 (hf 0 _ rfl)
  have e0' : [c0] = [I n0] := e0
  obtain rfl := List.singleton_inj.1 e0'
  obtain ⟨n1, e1, _, w1⟩ := DataW.trod_int Tryz.underlying3 (hf 1 _ rfl)
  have e1' : [c1] = [I n1] := e1
  obtain rfl := List.singleton_inj.1 e1'
  exact ⟨⟨n0, n1⟩, [], rfl, rfl, ⟨dJ w0, dJ w1⟩⟩
theorem opens_EdgeS : fN 102 (List Edge) := fK Tryz.underlying102 aD aU opens_Edge
theorem opens_Plan : fN 104 Plan := by
 intro H enc w fuel cs x h
 obtain ⟨xs, n, _, hx, hl, hlen, hf⟩ := DataW.trod_struct Tryz.underlying104 h
 have hl' : cs.length = 5 := hl
 have hlen' : xs.length = 5 := hlen
 match cs, hl', xs, hlen' with
 | [c0, c1, c2, c3, c4], _, [y0, y1, y2, y3, y4], _ =>
  obtain ⟨n0, e0, _, w0⟩ := DataW.trod_int Tryz.underlying3 (hf 0 _ rfl)
  have e0' : [c0] = [I n0] := e0
  obtain rfl := List.singleton_inj.1 e0'
  obtain ⟨n1, e1, _, w1⟩ := DataW.trod_int Tryz.underlying3 (hf 1 _ rfl)
  have e1' : [c1] = [I n1] := e1
  obtain rfl := List.singleton_inj.1 e1'
  obtain ⟨n2, e2, _, w2⟩ := DataW.trod_int Tryz.underlying3 (hf 2 _ rfl)
  have e2' : [c2] = [I n2] := e2
  obtain rfl := List.singleton_inj.1 e2'
  obtain ⟨n3, e3, _, w3⟩ := DataW.trod_int Tryz.underlying3 (hf 3 _ rfl)
  have e3' : [c3] = [I n3] := e3
  obtain rfl := List.singleton_inj.1 e3'
  obtain ⟨l4, g4, u4, e4, s4⟩ := opens_EdgeS enc w n _ _ (hf 4 _ rfl)
  have e4' : [c4] = [u4] := e4
  obtain rfl := List.singleton_inj.1 e4'
  exact ⟨⟨n0, n1, n2, n3, l4⟩, _, _, g4, rfl, ⟨dJ w0, dJ w1, dJ w2, dJ w3⟩, s4, rfl⟩
theorem opens_Entry : fN 363 Entry := by
 intro H enc w fuel cs x h
 obtain ⟨xs, n, _, hx, hl, hlen, hf⟩ := DataW.trod_struct Tryz.underlying363 h
 have hl' : cs.length = 4 := hl
 have hlen' : xs.length = 4 := hlen
 match cs, hl', xs, hlen' with
 | [c0, c1, c2, c3], _, [y0, y1, y2, y3], _ =>
  obtain ⟨n0, e0, _, w0⟩ := DataW.trod_int Tryz.underlying3 (hf 0 _ rfl)
  have e0' : [c0] = [I n0] := e0
  obtain rfl := List.singleton_inj.1 e0'
  obtain ⟨n1, e1, _, w1⟩ := DataW.trod_int Tryz.underlying3 (hf 1 _ rfl)
  have e1' : [c1] = [I n1] := e1
  obtain rfl := List.singleton_inj.1 e1'
  obtain ⟨n2, e2, _, w2⟩ := DataW.trod_int Tryz.underlying3 (hf 2 _ rfl)
  have e2' : [c2] = [I n2] := e2
  obtain rfl := List.singleton_inj.1 e2'
  obtain ⟨n3, e3, _, w3⟩ := DataW.trod_int Tryz.underlying3 (hf 3 _ rfl)
  have e3' : [c3] = [I n3] := e3
  obtain rfl := List.singleton_inj.1 e3'
  exact ⟨⟨n0, n1, n2, n3⟩, [], rfl, rfl, ⟨dJ w0, dJ w1, dJ w2, dJ w3⟩⟩
theorem opens_EntryS : fN 336 (List Entry) := fK Tryz.underlying336 aD aU opens_Entry
theorem opens_Task : fN 372 Task := by
 intro H enc w fuel cs x h
 obtain ⟨xs, n, _, hx, hl, hlen, hf⟩ := DataW.trod_struct Tryz.underlying372 h
 have hl' : cs.length = 4 := hl
 have hlen' : xs.length = 4 := hlen
 match cs, hl', xs, hlen' with
 | [c0, c1, c2, c3], _, [y0, y1, y2, y3], _ =>
  obtain ⟨n0, e0, _, w0⟩ := DataW.trod_int Tryz.underlying3 (hf 0 _ rfl)
  have e0' : [c0] = [I n0] := e0
  obtain rfl := List.singleton_inj.1 e0'
  obtain ⟨n1, e1, _, w1⟩ := DataW.trod_int Tryz.underlying3 (hf 1 _ rfl)
  have e1' : [c1] = [I n1] := e1
  obtain rfl := List.singleton_inj.1 e1'
  obtain ⟨n2, e2, _, w2⟩ := DataW.trod_int Tryz.underlying3 (hf 2 _ rfl)
  have e2' : [c2] = [I n2] := e2
  obtain rfl := List.singleton_inj.1 e2'
  obtain ⟨n3, e3, _, w3⟩ := DataW.trod_int Tryz.underlying3 (hf 3 _ rfl)
  have e3' : [c3] = [I n3] := e3
  obtain rfl := List.singleton_inj.1 e3'
  exact ⟨⟨n0, n1, n2, n3⟩, [], rfl, rfl, ⟨dJ w0, dJ w1, dJ w2, dJ w3⟩⟩
theorem opens_TaskS : fN 338 (List Task) := fK Tryz.underlying338 aD aU opens_Task
theorem opens_Run : fN 340 Run := by
 intro H enc w fuel cs x h
 obtain ⟨xs, n, _, hx, hl, hlen, hf⟩ := DataW.trod_struct Tryz.underlying340 h
 have hl' : cs.length = 8 := hl
 have hlen' : xs.length = 4 := hlen
 match cs, hl', xs, hlen' with
 | [c0, c1, c2, c3, c4, c5, c6, c7], _, [y0, y1, y2, y3], _ =>
  obtain ⟨n0, e0, _, w0⟩ := DataW.trod_int Tryz.underlying3 (hf 0 _ rfl)
  have e0' : [c0] = [I n0] := e0
  obtain rfl := List.singleton_inj.1 e0'
  obtain ⟨z1, gz1, u1_0, g1_0, e1, ok1, s1_0, _⟩ := opens_Plan enc w n _ _ (hf 1 _ rfl)
  have e1' : [c1, c2, c3, c4, c5] = [I z1.prio, I z1.most, I z1.wait, I z1.tasks, u1_0] := e1
  simp only [List.cons.injEq, and_true] at e1'
  obtain ⟨rfl, rfl, rfl, rfl, rfl⟩ := e1'
  obtain ⟨n2, e2, _, w2⟩ := DataW.trod_int Tryz.underlying3 (hf 2 _ rfl)
  have e2' : [c6] = [I n2] := e2
  obtain rfl := List.singleton_inj.1 e2'
  obtain ⟨l3, g3, u3, e3, s3⟩ := opens_TaskS enc w n _ _ (hf 3 _ rfl)
  have e3' : [c7] = [u3] := e3
  obtain rfl := List.singleton_inj.1 e3'
  exact ⟨⟨n0, z1, n2, l3⟩, _, _, _, g1_0, g3, rfl, ⟨dJ w0, ok1, dJ w2⟩, s1_0, s3, rfl⟩
theorem opens_RunS : fN 68 (List Run) := fK Tryz.underlying68 aD aU opens_Run
theorem opens_EntrySS : fN 67 (List (List Entry)) := fK Tryz.underlying67 aD aU opens_EntryS
theorem opens_Yard : fN 70 Yard := by
 intro H enc w fuel cs x h
 obtain ⟨xs, n, _, hx, hl, hlen, hf⟩ := DataW.trod_struct Tryz.underlying70 h
 have hl' : cs.length = 4 := hl
 have hlen' : xs.length = 4 := hlen
 match cs, hl', xs, hlen' with
 | [c0, c1, c2, c3], _, [y0, y1, y2, y3], _ =>
  obtain ⟨n0, e0, _, w0⟩ := DataW.trod_int Tryz.underlying3 (hf 0 _ rfl)
  have e0' : [c0] = [I n0] := e0
  obtain rfl := List.singleton_inj.1 e0'
  obtain ⟨n1, e1, _, w1⟩ := DataW.trod_int Tryz.underlying3 (hf 1 _ rfl)
  have e1' : [c1] = [I n1] := e1
  obtain rfl := List.singleton_inj.1 e1'
  obtain ⟨l2, g2, u2, e2, s2⟩ := opens_EntrySS enc w n _ _ (hf 2 _ rfl)
  have e2' : [c2] = [u2] := e2
  obtain rfl := List.singleton_inj.1 e2'
  obtain ⟨l3, g3, u3, e3, s3⟩ := opens_RunS enc w n _ _ (hf 3 _ rfl)
  have e3' : [c3] = [u3] := e3
  obtain rfl := List.singleton_inj.1 e3'
  exact ⟨⟨n0, n1, l2, l3⟩, _, _, _, g2, g3, rfl, ⟨dJ w0, dJ w1⟩, s2, s3, rfl⟩
theorem opens_Reply : fN 264 Reply := by
 intro H enc w fuel cs x h
 obtain ⟨xs, n, _, hx, hl, hlen, hf⟩ := DataW.trod_struct Tryz.underlying264 h
 have hl' : cs.length = 4 := hl
 have hlen' : xs.length = 4 := hlen
 match cs, hl', xs, hlen' with
 | [c0, c1, c2, c3], _, [y0, y1, y2, y3], _ =>
  obtain ⟨n0, e0, _, w0⟩ := DataW.trod_int Tryz.underlying3 (hf 0 _ rfl)
  have e0' : [c0] = [I n0] := e0
  obtain rfl := List.singleton_inj.1 e0'
  obtain ⟨n1, e1, _, w1⟩ := DataW.trod_int Tryz.underlying3 (hf 1 _ rfl)
  have e1' : [c1] = [I n1] := e1
  obtain rfl := List.singleton_inj.1 e1'
  obtain ⟨n2, e2, _, w2⟩ := DataW.trod_int Tryz.underlying3 (hf 2 _ rfl)
  have e2' : [c2] = [I n2] := e2
  obtain rfl := List.singleton_inj.1 e2'
  obtain ⟨n3, e3, _, w3⟩ := DataW.trod_int Tryz.underlying3 (hf 3 _ rfl)
  have e3' : [c3] = [I n3] := e3
  obtain rfl := List.singleton_inj.1 e3'
  exact ⟨⟨n0, n1, n2, n3⟩, [], rfl, rfl, ⟨dJ w0, dJ w1, dJ w2, dJ w3⟩⟩
theorem opens_Wait : fN 266 Wait := by
 intro H enc w fuel cs x h
 obtain ⟨xs, n, _, hx, hl, hlen, hf⟩ := DataW.trod_struct Tryz.underlying266 h
 have hl' : cs.length = 5 := hl
 have hlen' : xs.length = 2 := hlen
 match cs, hl', xs, hlen' with
 | [c0, c1, c2, c3, c4], _, [y0, y1], _ =>
  obtain ⟨n0, e0, _, w0⟩ := DataW.trod_int Tryz.underlying3 (hf 0 _ rfl)
  have e0' : [c0] = [I n0] := e0
  obtain rfl := List.singleton_inj.1 e0'
  obtain ⟨z1, gz1, e1, _, ok1⟩ := opens_Reply enc w n _ _ (hf 1 _ rfl)
  have e1' : [c1, c2, c3, c4] = [I z1.code, I z1.run, I z1.task, I z1.try_] := e1
  simp only [List.cons.injEq, and_true] at e1'
  obtain ⟨rfl, rfl, rfl, rfl⟩ := e1'
  exact ⟨⟨n0, z1⟩, [], rfl, rfl, ⟨dJ w0, ok1⟩⟩
theorem opens_WaitS : fN 71 (List Wait) := fK Tryz.underlying71 aD aU opens_Wait
theorem opens_File : fN 253 File := by
 intro H enc w fuel cs x h
 obtain ⟨xs, n, _, hx, hl, hlen, hf⟩ := DataW.trod_struct Tryz.underlying253 h
 have hl' : cs.length = 3 := hl
 have hlen' : xs.length = 3 := hlen
 match cs, hl', xs, hlen' with
 | [c0, c1, c2], _, [y0, y1, y2], _ =>
  obtain ⟨s0, fs0, e0, _, ws0⟩ := qI enc w n _ _ (hf 0 _ rfl)
  have e0' : [c0] = [.string s0] := e0
  obtain rfl := List.singleton_inj.1 e0'
  obtain ⟨s1, fs1, e1, _, ws1⟩ := qI enc w n _ _ (hf 1 _ rfl)
  have e1' : [c1] = [.string s1] := e1
  obtain rfl := List.singleton_inj.1 e1'
  obtain ⟨n2, e2, _, w2⟩ := DataW.trod_int Tryz.underlying3 (hf 2 _ rfl)
  have e2' : [c2] = [I n2] := e2
  obtain rfl := List.singleton_inj.1 e2'
  exact ⟨⟨s0, s1, n2⟩, [], rfl, rfl, ⟨ws0, ws1, dJ w2⟩⟩
theorem opens_FileS : fN 58 (List File) := fK Tryz.underlying58 aD aU opens_File
theorem opens_Disk : fN 60 Disk := by
 intro H enc w fuel cs x h
 obtain ⟨xs, n, _, hx, hl, hlen, hf⟩ := DataW.trod_struct Tryz.underlying60 h
 have hl' : cs.length = 1 := hl
 have hlen' : xs.length = 1 := hlen
 match cs, hl', xs, hlen' with
 | [c0], _, [y0], _ =>
  obtain ⟨l0, g0, u0, e0, s0⟩ := opens_FileS enc w n _ _ (hf 0 _ rfl)
  have e0' : [c0] = [u0] := e0
  obtain rfl := List.singleton_inj.1 e0'
  exact ⟨⟨l0⟩, _, _, g0, rfl, trivial, s0, rfl⟩
theorem opens_Engine : fN 73 Engine := by
 intro H enc w fuel cs x h
 obtain ⟨xs, n, _, hx, hl, hlen, hf⟩ := DataW.trod_struct Tryz.underlying73 h
 have hl' : cs.length = 10 := hl
 have hlen' : xs.length = 7 := hlen
 match cs, hl', xs, hlen' with
 | [c0, c1, c2, c3, c4, c5, c6, c7, c8, c9], _, [y0, y1, y2, y3, y4, y5, y6], _ =>
  obtain ⟨z0, gz0, u0_0, u0_1, g0_0, g0_1, e0, ok0, s0_0, s0_1, _⟩ := opens_Yard enc w n _ _ (hf 0 _ rfl)
  have e0' : [c0, c1, c2, c3] = [I z0.now, I z0.seq, u0_0, u0_1] := e0
  simp only [List.cons.injEq, and_true] at e0'
  obtain ⟨rfl, rfl, rfl, rfl⟩ := e0'
  obtain ⟨z1, gz1, u1_0, g1_0, e1, ok1, s1_0, _⟩ := opens_Disk enc w n _ _ (hf 1 _ rfl)
  have e1' : [c4] = [u1_0] := e1
  simp only [List.cons.injEq, and_true] at e1'
  obtain rfl := e1'
  obtain ⟨n2, e2, _, w2⟩ := DataW.trod_int Tryz.underlying3 (hf 2 _ rfl)
  have e2' : [c5] = [I n2] := e2
  obtain rfl := List.singleton_inj.1 e2'
  obtain ⟨n3, e3, _, w3⟩ := DataW.trod_int Tryz.underlying3 (hf 3 _ rfl)
  have e3' : [c6] = [I n3] := e3
  obtain rfl := List.singleton_inj.1 e3'
  obtain ⟨l4, g4, u4, e4, s4⟩ := opens_WaitS enc w n _ _ (hf 4 _ rfl)
  have e4' : [c7] = [u4] := e4
  obtain rfl := List.singleton_inj.1 e4'
  obtain ⟨n5, e5, _, w5⟩ := DataW.trod_int Tryz.underlying3 (hf 5 _ rfl)
  have e5' : [c8] = [I n5] := e5
  obtain rfl := List.singleton_inj.1 e5'
  obtain ⟨b6, fb6, e6, _⟩ := opens_bool enc w n _ _ (hf 6 _ rfl)
  have e6' : [c9] = [.bool b6] := e6
  obtain rfl := List.singleton_inj.1 e6'
  exact ⟨⟨z0, z1, n2, n3, l4, n5, b6⟩, _, _, _, _, _, g0_0, g0_1, g1_0, g4, rfl, ⟨ok0, dJ w2, dJ w3, dJ w5⟩, s0_0, s0_1, s1_0, s4, rfl⟩
end Go.Proofs.YtanpcpoogkdlaaaGreat
