/-
  A law's arguments, taken out of the row's reading. (Printed by a program of this project's: wip/gentypes.py.)
-/
import Derived.Test.YtchnllpegfbleaaGreatQ07
namespace Go.Proofs.YtchnllpegfbleaaGreat
set_option linter.unusedSimpArgs false
set_option linter.unusedVariables false
set_option maxRecDepth 100000
set_option maxHeartbeats 2000000
open Go.ChangeShapes Go.WideShapes Go.ChangeAt Go.RowKit Go.Deep
theorem opens_intS : jO 49 (List Int) := iY Tryz.underlying49 aD aZ opens_int
theorem opens_Edge : jO 228 Edge := by
 intro H enc w fuel cs x h
 obtain ⟨xs, n, _, hx, hl, hlen, hf⟩ := DataW.trod_struct Tryz.underlying228 h
 have hl' : cs.length = 2 := hl
 have hlen' : xs.length = 2 := hlen
 match cs, hl', xs, hlen' with
 | [s, t], _, [a, b], _ =>
  obtain ⟨c, d, _, e⟩ := DataW.trod_int Tryz.underlying3 (hf 0 _ rfl)
  have e0' : [s] = [I c] := d
  obtain rfl := List.singleton_inj.1 e0'
  obtain ⟨g, j, _, p⟩ := DataW.trod_int Tryz.underlying3 (hf 1 _ rfl)
  have e1' : [t] = [I g] := j
  obtain rfl := List.singleton_inj.1 e1'
  exact ⟨⟨c, g⟩, [], rfl, rfl, ⟨fA e, fA p⟩⟩
theorem opens_EdgeS : jO 94 (List Edge) := iY Tryz.underlying94 aD aZ opens_Edge
theorem wY : jO 96 Plan := by
 intro H enc w fuel cs x h
 obtain ⟨xs, n, _, hx, hl, hlen, hf⟩ := DataW.trod_struct Tryz.underlying96 h
 have hl' : cs.length = 5 := hl
 have hlen' : xs.length = 5 := hlen
 match cs, hl', xs, hlen' with
 | [s, t, a, b, c], _, [d, e, g, j, p], _ =>
  obtain ⟨q, z, _, A⟩ := DataW.trod_int Tryz.underlying3 (hf 0 _ rfl)
  have e0' : [s] = [I q] := z
  obtain rfl := List.singleton_inj.1 e0'
  obtain ⟨B, C, _, D⟩ := DataW.trod_int Tryz.underlying3 (hf 1 _ rfl)
  have e1' : [t] = [I B] := C
  obtain rfl := List.singleton_inj.1 e1'
  obtain ⟨E, d, _, F⟩ := DataW.trod_int Tryz.underlying3 (hf 2 _ rfl)
  have e2' : [a] = [I E] := d
  obtain rfl := List.singleton_inj.1 e2'
  obtain ⟨G, s, _, J⟩ := DataW.trod_int Tryz.underlying3 (hf 3 _ rfl)
  have e3' : [b] = [I G] := s
  obtain rfl := List.singleton_inj.1 e3'
  obtain ⟨K, L, t, e, M⟩ := opens_EdgeS enc w n _ _ (hf 4 _ rfl)
  have e4' : [c] = [t] := e
  obtain rfl := List.singleton_inj.1 e4'
  exact ⟨⟨q, B, E, G, K⟩, _, _, L, rfl, ⟨fA A, fA D, fA F, fA J⟩, M, rfl⟩
theorem opens_Entry : jO 188 Entry := by
 intro H enc w fuel cs x h
 obtain ⟨xs, n, _, hx, hl, hlen, hf⟩ := DataW.trod_struct Tryz.underlying188 h
 have hl' : cs.length = 4 := hl
 have hlen' : xs.length = 4 := hlen
 match cs, hl', xs, hlen' with
 | [s, t, a, b], _, [c, d, e, g], _ =>
  obtain ⟨j, p, _, q⟩ := DataW.trod_int Tryz.underlying3 (hf 0 _ rfl)
  have e0' : [s] = [I j] := p
  obtain rfl := List.singleton_inj.1 e0'
  obtain ⟨z, A, _, B⟩ := DataW.trod_int Tryz.underlying3 (hf 1 _ rfl)
  have e1' : [t] = [I z] := A
  obtain rfl := List.singleton_inj.1 e1'
  obtain ⟨C, c, _, D⟩ := DataW.trod_int Tryz.underlying3 (hf 2 _ rfl)
  have e2' : [a] = [I C] := c
  obtain rfl := List.singleton_inj.1 e2'
  obtain ⟨E, s, _, F⟩ := DataW.trod_int Tryz.underlying3 (hf 3 _ rfl)
  have e3' : [b] = [I E] := s
  obtain rfl := List.singleton_inj.1 e3'
  exact ⟨⟨j, z, C, E⟩, [], rfl, rfl, ⟨fA q, fA B, fA D, fA F⟩⟩
theorem opens_EntryS : jO 134 (List Entry) := iY Tryz.underlying134 aD aZ opens_Entry
theorem opens_Task : jO 218 Task := by
 intro H enc w fuel cs x h
 obtain ⟨xs, n, _, hx, hl, hlen, hf⟩ := DataW.trod_struct Tryz.underlying218 h
 have hl' : cs.length = 4 := hl
 have hlen' : xs.length = 4 := hlen
 match cs, hl', xs, hlen' with
 | [s, t, a, b], _, [c, d, e, g], _ =>
  obtain ⟨j, p, _, q⟩ := DataW.trod_int Tryz.underlying3 (hf 0 _ rfl)
  have e0' : [s] = [I j] := p
  obtain rfl := List.singleton_inj.1 e0'
  obtain ⟨z, A, _, B⟩ := DataW.trod_int Tryz.underlying3 (hf 1 _ rfl)
  have e1' : [t] = [I z] := A
  obtain rfl := List.singleton_inj.1 e1'
  obtain ⟨C, c, _, D⟩ := DataW.trod_int Tryz.underlying3 (hf 2 _ rfl)
  have e2' : [a] = [I C] := c
  obtain rfl := List.singleton_inj.1 e2'
  obtain ⟨E, s, _, F⟩ := DataW.trod_int Tryz.underlying3 (hf 3 _ rfl)
  have e3' : [b] = [I E] := s
  obtain rfl := List.singleton_inj.1 e3'
  exact ⟨⟨j, z, C, E⟩, [], rfl, rfl, ⟨fA q, fA B, fA D, fA F⟩⟩
theorem opens_TaskS : jO 136 (List Task) := iY Tryz.underlying136 aD aZ opens_Task
theorem opens_Run : jO 138 Run := by
 intro H enc w fuel cs x h
 obtain ⟨xs, n, _, hx, hl, hlen, hf⟩ := DataW.trod_struct Tryz.underlying138 h
 have hl' : cs.length = 8 := hl
 have hlen' : xs.length = 4 := hlen
 match cs, hl', xs, hlen' with
 | [s, t, a, b, c, d, e, g], _, [j, p, q, z], _ =>
  obtain ⟨A, B, _, C⟩ := DataW.trod_int Tryz.underlying3 (hf 0 _ rfl)
  have e0' : [s] = [I A] := B
  obtain rfl := List.singleton_inj.1 e0'
  obtain ⟨D, E, F, G, J, K, L, _⟩ := wY enc w n _ _ (hf 1 _ rfl)
  have e1' : [t, a, b, c, d] = [I D.prio, I D.most, I D.wait, I D.tasks, F] := J
  simp only [List.cons.injEq, and_true] at e1'
  obtain ⟨rfl, rfl, rfl, rfl, rfl⟩ := e1'
  obtain ⟨M, s, _, N⟩ := DataW.trod_int Tryz.underlying3 (hf 2 _ rfl)
  have e2' : [e] = [I M] := s
  obtain rfl := List.singleton_inj.1 e2'
  obtain ⟨O, P, t, a, R⟩ := opens_TaskS enc w n _ _ (hf 3 _ rfl)
  have e3' : [g] = [t] := a
  obtain rfl := List.singleton_inj.1 e3'
  exact ⟨⟨A, D, M, O⟩, _, _, _, G, P, rfl, ⟨fA C, K, fA N⟩, L, R, rfl⟩
theorem opens_RunS : jO 23 (List Run) := iY Tryz.underlying23 aD aZ opens_Run
theorem opens_EntrySS : jO 22 (List (List Entry)) := iY Tryz.underlying22 aD aZ opens_EntryS
theorem opens_Yard : jO 25 Yard := by
 intro H enc w fuel cs x h
 obtain ⟨xs, n, _, hx, hl, hlen, hf⟩ := DataW.trod_struct Tryz.underlying25 h
 have hl' : cs.length = 4 := hl
 have hlen' : xs.length = 4 := hlen
 match cs, hl', xs, hlen' with
 | [s, t, a, b], _, [c, d, e, g], _ =>
  obtain ⟨j, p, _, q⟩ := DataW.trod_int Tryz.underlying3 (hf 0 _ rfl)
  have e0' : [s] = [I j] := p
  obtain rfl := List.singleton_inj.1 e0'
  obtain ⟨z, A, _, B⟩ := DataW.trod_int Tryz.underlying3 (hf 1 _ rfl)
  have e1' : [t] = [I z] := A
  obtain rfl := List.singleton_inj.1 e1'
  obtain ⟨C, D, c, d, E⟩ := opens_EntrySS enc w n _ _ (hf 2 _ rfl)
  have e2' : [a] = [c] := d
  obtain rfl := List.singleton_inj.1 e2'
  obtain ⟨F, G, s, e, J⟩ := opens_RunS enc w n _ _ (hf 3 _ rfl)
  have e3' : [b] = [s] := e
  obtain rfl := List.singleton_inj.1 e3'
  exact ⟨⟨j, z, C, F⟩, _, _, _, D, G, rfl, ⟨fA q, fA B⟩, E, J, rfl⟩
theorem opens_Reply : jO 99 Reply := by
 intro H enc w fuel cs x h
 obtain ⟨xs, n, _, hx, hl, hlen, hf⟩ := DataW.trod_struct Tryz.underlying99 h
 have hl' : cs.length = 4 := hl
 have hlen' : xs.length = 4 := hlen
 match cs, hl', xs, hlen' with
 | [s, t, a, b], _, [c, d, e, g], _ =>
  obtain ⟨j, p, _, q⟩ := DataW.trod_int Tryz.underlying3 (hf 0 _ rfl)
  have e0' : [s] = [I j] := p
  obtain rfl := List.singleton_inj.1 e0'
  obtain ⟨z, A, _, B⟩ := DataW.trod_int Tryz.underlying3 (hf 1 _ rfl)
  have e1' : [t] = [I z] := A
  obtain rfl := List.singleton_inj.1 e1'
  obtain ⟨C, c, _, D⟩ := DataW.trod_int Tryz.underlying3 (hf 2 _ rfl)
  have e2' : [a] = [I C] := c
  obtain rfl := List.singleton_inj.1 e2'
  obtain ⟨E, s, _, F⟩ := DataW.trod_int Tryz.underlying3 (hf 3 _ rfl)
  have e3' : [b] = [I E] := s
  obtain rfl := List.singleton_inj.1 e3'
  exact ⟨⟨j, z, C, E⟩, [], rfl, rfl, ⟨fA q, fA B, fA D, fA F⟩⟩
theorem opens_Deed : jO 98 Deed := by
 intro H enc w fuel cs x h
 obtain ⟨xs, n, _, hx, hl, hlen, hf⟩ := DataW.trod_struct Tryz.underlying98 h
 have hl' : cs.length = 11 := hl
 have hlen' : xs.length = 7 := hlen
 match cs, hl', xs, hlen' with
 | [s, t, a, b, c, d, e, g, j, p, q], _, [z, A, B, C, D, E, F], _ =>
  obtain ⟨G, J, _, K⟩ := DataW.trod_int Tryz.underlying3 (hf 0 _ rfl)
  have e0' : [s] = [I G] := J
  obtain rfl := List.singleton_inj.1 e0'
  obtain ⟨L, M, _, N⟩ := DataW.trod_int Tryz.underlying3 (hf 1 _ rfl)
  have e1' : [t] = [I L] := M
  obtain rfl := List.singleton_inj.1 e1'
  obtain ⟨O, z, A, P, B, R, S, _⟩ := wY enc w n _ _ (hf 2 _ rfl)
  have e2' : [a, b, c, d, e] = [I O.prio, I O.most, I O.wait, I O.tasks, A] := B
  simp only [List.cons.injEq, and_true] at e2'
  obtain ⟨rfl, rfl, rfl, rfl, rfl⟩ := e2'
  obtain ⟨T, s, _, U⟩ := DataW.trod_int Tryz.underlying3 (hf 3 _ rfl)
  have e3' : [g] = [I T] := s
  obtain rfl := List.singleton_inj.1 e3'
  obtain ⟨X, t, _, Y⟩ := DataW.trod_int Tryz.underlying3 (hf 4 _ rfl)
  have e4' : [j] = [I X] := t
  obtain rfl := List.singleton_inj.1 e4'
  obtain ⟨Z, a, _, a0⟩ := DataW.trod_int Tryz.underlying3 (hf 5 _ rfl)
  have e5' : [p] = [I Z] := a
  obtain rfl := List.singleton_inj.1 e5'
  obtain ⟨b0, s, _, c0⟩ := DataW.trod_int Tryz.underlying3 (hf 6 _ rfl)
  have e6' : [q] = [I b0] := s
  obtain rfl := List.singleton_inj.1 e6'
  exact ⟨⟨G, L, O, T, X, Z, b0⟩, _, _, P, rfl, ⟨fA K, fA N, R, fA U, fA Y, fA a0, fA c0⟩, S, rfl⟩
theorem opens_Span : jO 101 Span := by
 intro H enc w fuel cs x h
 obtain ⟨xs, n, _, hx, hl, hlen, hf⟩ := DataW.trod_struct Tryz.underlying101 h
 have hl' : cs.length = 17 := hl
 have hlen' : xs.length = 4 := hlen
 match cs, hl', xs, hlen' with
 | [s, t, a, b, c, d, e, g, j, p, q, z, A, B, C, D, E], _, [F, G, J, K], _ =>
  obtain ⟨L, M, N, O, P, R, S, _⟩ := opens_Deed enc w n _ _ (hf 0 _ rfl)
  have e0' : [s, t, a, b, c, d, e, g, j, p, q] = [I L.kind, I L.run, I L.plan.prio, I L.plan.most, I L.plan.wait, I L.plan.tasks, N, I L.task, I L.try_, I L.worker, I L.draw] := P
  simp only [List.cons.injEq, and_true] at e0'
  obtain ⟨rfl, rfl, rfl, rfl, rfl, rfl, rfl, rfl, rfl, rfl, rfl⟩ := e0'
  obtain ⟨T, s, _, U⟩ := DataW.trod_int Tryz.underlying3 (hf 1 _ rfl)
  have e1' : [z] = [I T] := s
  obtain rfl := List.singleton_inj.1 e1'
  obtain ⟨X, t, _, Y⟩ := DataW.trod_int Tryz.underlying3 (hf 2 _ rfl)
  have e2' : [A] = [I X] := t
  obtain rfl := List.singleton_inj.1 e2'
  obtain ⟨Z, a, b, _, a0⟩ := opens_Reply enc w n _ _ (hf 3 _ rfl)
  have e3' : [B, C, D, E] = [I Z.code, I Z.run, I Z.task, I Z.try_] := b
  simp only [List.cons.injEq, and_true] at e3'
  obtain ⟨rfl, rfl, rfl, rfl⟩ := e3'
  exact ⟨⟨L, T, X, Z⟩, _, _, O, rfl, ⟨R, fA U, fA Y, a0⟩, S, rfl⟩
theorem opens_SpanS : jO 59 (List Span) := iY Tryz.underlying59 aD aZ opens_Span
end Go.Proofs.YtchnllpegfbleaaGreat
