/-
  Closed facts on the program's types: sizes, places of fields, elements of slices. (Printed by a program of this project's: wip/gentab.py.)
-/
import Derived.Test.YtchnllpegfbleaaGreatSxOwn
import Derived.Test.YtchnllpegfbleaaGreatTypes
namespace Go.Proofs.YtchnllpegfbleaaGreat
set_option linter.unusedSimpArgs false
set_option linter.unusedVariables false
set_option maxRecDepth 100000
open Go.RowKit

instance : Agg Edge := ⟨true⟩
instance : Agg Plan := ⟨true⟩
instance : Agg Entry := ⟨true⟩
instance : Agg Task := ⟨true⟩
instance : Agg Run := ⟨true⟩
instance : Agg Yard := ⟨true⟩
instance : Agg Reply := ⟨true⟩
instance : Agg Deed := ⟨true⟩
instance : Agg Note := ⟨true⟩
instance : Agg Wait := ⟨true⟩
instance : Agg File := ⟨true⟩
instance : Agg Disk := ⟨true⟩
instance : Agg Engine := ⟨true⟩
instance : Agg WorldD := ⟨true⟩
instance : Agg ActD := ⟨true⟩
instance : Agg Hand := ⟨true⟩
instance : Agg Span := ⟨true⟩
instance : Agg Crew := ⟨true⟩
instance : Agg View := ⟨true⟩
theorem mix : Tryz.prog.follows .mixedOrders = true := by kernel_rfl
theorem ld_int : TyOk Tryz.prog 3 Int := ⟨by kernel_rfl, fun _ => rfl, _, Tryz.underlying3, rfl⟩
theorem ld_bool : TyOk Tryz.prog 4 Bool := ⟨by kernel_rfl, fun _ => rfl, _, Tryz.underlying4, rfl⟩
theorem ld_string : TyOk Tryz.prog 9 ByteArray := ⟨by kernel_rfl, fun _ => rfl, _, Tryz.underlying9, rfl⟩
theorem ld_IntS : TyOk Tryz.prog 49 (List Int) := ⟨by kernel_rfl, fun _ => rfl, _, Tryz.underlying49, rfl⟩
theorem sl_IntS : SlOk Tryz.prog 49 3 Int := ⟨Tryz.underlying49, by kernel_rfl⟩
theorem ap_IntS : ApOk Tryz.prog 49 3 Int 8 := apOk Tryz.underlying49 (by kernel_rfl) (by decide)
theorem ld_boolS : TyOk Tryz.prog 102 (List Bool) := ⟨by kernel_rfl, fun _ => rfl, _, Tryz.underlying102, rfl⟩
theorem sl_boolS : SlOk Tryz.prog 102 4 Bool := ⟨Tryz.underlying102, by kernel_rfl⟩
theorem ap_boolS : ApOk Tryz.prog 102 4 Bool 1 := apOk Tryz.underlying102 (by kernel_rfl) (by decide)
theorem ld_IntSS : TyOk Tryz.prog 205 (List (List Int)) := ⟨by kernel_rfl, fun _ => rfl, _, Tryz.underlying205, rfl⟩
theorem sl_IntSS : SlOk Tryz.prog 205 49 (List Int) := ⟨Tryz.underlying205, by kernel_rfl⟩
theorem ap_IntSS : ApOk Tryz.prog 205 49 (List Int) 24 := apOk Tryz.underlying205 (by kernel_rfl) (by decide)
theorem ld_Edge : TyOk Tryz.prog 176 Edge := ⟨by kernel_rfl, (fun h => by cases h), _, Tryz.underlying176, _, rfl⟩
theorem zz_Edge : ZeroOk Tryz.prog 176 [I 0, I 0] := by unfold ZeroOk; kernel_rfl
theorem fa_Edge_0 : FieldOk Tryz.prog 176 0 0 := fieldOk Tryz.underlying176 rfl rfl (by kernel_rfl)
theorem fa_Edge_1 : FieldOk Tryz.prog 176 1 1 := fieldOk Tryz.underlying176 rfl rfl (by kernel_rfl)
theorem ld_Plan : TyOk Tryz.prog 106 Plan := ⟨by kernel_rfl, (fun h => by cases h), _, Tryz.underlying106, _, rfl⟩
theorem zz_Plan : ZeroOk Tryz.prog 106 [I 0, I 0, I 0, I 0, .slice none 0 0] := by unfold ZeroOk; kernel_rfl
theorem fa_Plan_0 : FieldOk Tryz.prog 106 0 0 := fieldOk Tryz.underlying106 rfl rfl (by kernel_rfl)
theorem fa_Plan_1 : FieldOk Tryz.prog 106 1 1 := fieldOk Tryz.underlying106 rfl rfl (by kernel_rfl)
theorem fa_Plan_2 : FieldOk Tryz.prog 106 2 2 := fieldOk Tryz.underlying106 rfl rfl (by kernel_rfl)
theorem fa_Plan_3 : FieldOk Tryz.prog 106 3 3 := fieldOk Tryz.underlying106 rfl rfl (by kernel_rfl)
theorem fa_Plan_4 : FieldOk Tryz.prog 106 4 4 := fieldOk Tryz.underlying106 rfl rfl (by kernel_rfl)
theorem ld_Entry : TyOk Tryz.prog 131 Entry := ⟨by kernel_rfl, (fun h => by cases h), _, Tryz.underlying131, _, rfl⟩
theorem zz_Entry : ZeroOk Tryz.prog 131 [I 0, I 0, I 0, I 0] := by unfold ZeroOk; kernel_rfl
theorem fa_Entry_0 : FieldOk Tryz.prog 131 0 0 := fieldOk Tryz.underlying131 rfl rfl (by kernel_rfl)
theorem fa_Entry_1 : FieldOk Tryz.prog 131 1 1 := fieldOk Tryz.underlying131 rfl rfl (by kernel_rfl)
theorem fa_Entry_2 : FieldOk Tryz.prog 131 2 2 := fieldOk Tryz.underlying131 rfl rfl (by kernel_rfl)
theorem fa_Entry_3 : FieldOk Tryz.prog 131 3 3 := fieldOk Tryz.underlying131 rfl rfl (by kernel_rfl)
theorem ld_Task : TyOk Tryz.prog 140 Task := ⟨by kernel_rfl, (fun h => by cases h), _, Tryz.underlying140, _, rfl⟩
theorem zz_Task : ZeroOk Tryz.prog 140 [I 0, I 0, I 0, I 0] := by unfold ZeroOk; kernel_rfl
theorem fa_Task_0 : FieldOk Tryz.prog 140 0 0 := fieldOk Tryz.underlying140 rfl rfl (by kernel_rfl)
theorem fa_Task_1 : FieldOk Tryz.prog 140 1 1 := fieldOk Tryz.underlying140 rfl rfl (by kernel_rfl)
theorem fa_Task_2 : FieldOk Tryz.prog 140 2 2 := fieldOk Tryz.underlying140 rfl rfl (by kernel_rfl)
theorem fa_Task_3 : FieldOk Tryz.prog 140 3 3 := fieldOk Tryz.underlying140 rfl rfl (by kernel_rfl)
theorem ld_Run : TyOk Tryz.prog 123 Run := ⟨by kernel_rfl, (fun h => by cases h), _, Tryz.underlying123, _, rfl⟩
theorem zz_Run : ZeroOk Tryz.prog 123 [I 0, I 0, I 0, I 0, I 0, .slice none 0 0, I 0, .slice none 0 0] := by unfold ZeroOk; kernel_rfl
theorem fa_Run_0 : FieldOk Tryz.prog 123 0 0 := fieldOk Tryz.underlying123 rfl rfl (by kernel_rfl)
theorem fa_Run_1 : FieldOk Tryz.prog 123 1 1 := fieldOk Tryz.underlying123 rfl rfl (by kernel_rfl)
theorem fa_Run_2 : FieldOk Tryz.prog 123 2 6 := fieldOk Tryz.underlying123 rfl rfl (by kernel_rfl)
theorem fa_Run_3 : FieldOk Tryz.prog 123 3 7 := fieldOk Tryz.underlying123 rfl rfl (by kernel_rfl)
theorem ld_Yard : TyOk Tryz.prog 34 Yard := ⟨by kernel_rfl, (fun h => by cases h), _, Tryz.underlying34, _, rfl⟩
theorem zz_Yard : ZeroOk Tryz.prog 34 [I 0, I 0, .slice none 0 0, .slice none 0 0] := by unfold ZeroOk; kernel_rfl
theorem fa_Yard_0 : FieldOk Tryz.prog 34 0 0 := fieldOk Tryz.underlying34 rfl rfl (by kernel_rfl)
theorem fa_Yard_1 : FieldOk Tryz.prog 34 1 1 := fieldOk Tryz.underlying34 rfl rfl (by kernel_rfl)
theorem fa_Yard_2 : FieldOk Tryz.prog 34 2 2 := fieldOk Tryz.underlying34 rfl rfl (by kernel_rfl)
theorem fa_Yard_3 : FieldOk Tryz.prog 34 3 3 := fieldOk Tryz.underlying34 rfl rfl (by kernel_rfl)
theorem ld_Reply : TyOk Tryz.prog 75 Reply := ⟨by kernel_rfl, (fun h => by cases h), _, Tryz.underlying75, _, rfl⟩
theorem zz_Reply : ZeroOk Tryz.prog 75 [I 0, I 0, I 0, I 0] := by unfold ZeroOk; kernel_rfl
theorem fa_Reply_0 : FieldOk Tryz.prog 75 0 0 := fieldOk Tryz.underlying75 rfl rfl (by kernel_rfl)
theorem fa_Reply_1 : FieldOk Tryz.prog 75 1 1 := fieldOk Tryz.underlying75 rfl rfl (by kernel_rfl)
theorem fa_Reply_2 : FieldOk Tryz.prog 75 2 2 := fieldOk Tryz.underlying75 rfl rfl (by kernel_rfl)
theorem fa_Reply_3 : FieldOk Tryz.prog 75 3 3 := fieldOk Tryz.underlying75 rfl rfl (by kernel_rfl)
theorem ld_Deed : TyOk Tryz.prog 108 Deed := ⟨by kernel_rfl, (fun h => by cases h), _, Tryz.underlying108, _, rfl⟩
theorem zz_Deed : ZeroOk Tryz.prog 108 [I 0, I 0, I 0, I 0, I 0, I 0, .slice none 0 0, I 0, I 0, I 0, I 0] := by unfold ZeroOk; kernel_rfl
theorem fa_Deed_0 : FieldOk Tryz.prog 108 0 0 := fieldOk Tryz.underlying108 rfl rfl (by kernel_rfl)
theorem fa_Deed_1 : FieldOk Tryz.prog 108 1 1 := fieldOk Tryz.underlying108 rfl rfl (by kernel_rfl)
theorem fa_Deed_2 : FieldOk Tryz.prog 108 2 2 := fieldOk Tryz.underlying108 rfl rfl (by kernel_rfl)
theorem fa_Deed_3 : FieldOk Tryz.prog 108 3 7 := fieldOk Tryz.underlying108 rfl rfl (by kernel_rfl)
theorem fa_Deed_4 : FieldOk Tryz.prog 108 4 8 := fieldOk Tryz.underlying108 rfl rfl (by kernel_rfl)
theorem fa_Deed_5 : FieldOk Tryz.prog 108 5 9 := fieldOk Tryz.underlying108 rfl rfl (by kernel_rfl)
theorem fa_Deed_6 : FieldOk Tryz.prog 108 6 10 := fieldOk Tryz.underlying108 rfl rfl (by kernel_rfl)
theorem ld_Span : TyOk Tryz.prog 110 Span := ⟨by kernel_rfl, (fun h => by cases h), _, Tryz.underlying110, _, rfl⟩
theorem zz_Span : ZeroOk Tryz.prog 110 [I 0, I 0, I 0, I 0, I 0, I 0, .slice none 0 0, I 0, I 0, I 0, I 0, I 0, I 0, I 0, I 0, I 0, I 0] := by unfold ZeroOk; kernel_rfl
theorem fa_Span_0 : FieldOk Tryz.prog 110 0 0 := fieldOk Tryz.underlying110 rfl rfl (by kernel_rfl)
theorem fa_Span_1 : FieldOk Tryz.prog 110 1 11 := fieldOk Tryz.underlying110 rfl rfl (by kernel_rfl)
theorem fa_Span_2 : FieldOk Tryz.prog 110 2 12 := fieldOk Tryz.underlying110 rfl rfl (by kernel_rfl)
theorem fa_Span_3 : FieldOk Tryz.prog 110 3 13 := fieldOk Tryz.underlying110 rfl rfl (by kernel_rfl)
theorem ld_Crew : TyOk Tryz.prog 37 Crew := ⟨by kernel_rfl, (fun h => by cases h), _, Tryz.underlying37, _, rfl⟩
theorem zz_Crew : ZeroOk Tryz.prog 37 [I 0, I 0, .slice none 0 0, .slice none 0 0, .slice none 0 0, I 0, I 0] := by unfold ZeroOk; kernel_rfl
theorem fa_Crew_0 : FieldOk Tryz.prog 37 0 0 := fieldOk Tryz.underlying37 rfl rfl (by kernel_rfl)
theorem fa_Crew_1 : FieldOk Tryz.prog 37 1 4 := fieldOk Tryz.underlying37 rfl rfl (by kernel_rfl)
theorem fa_Crew_2 : FieldOk Tryz.prog 37 2 5 := fieldOk Tryz.underlying37 rfl rfl (by kernel_rfl)
theorem fa_Crew_3 : FieldOk Tryz.prog 37 3 6 := fieldOk Tryz.underlying37 rfl rfl (by kernel_rfl)
theorem ld_EdgeS : TyOk Tryz.prog 104 (List Edge) := ⟨by kernel_rfl, fun _ => rfl, _, Tryz.underlying104, rfl⟩
theorem sl_EdgeS : SlOk Tryz.prog 104 176 Edge := ⟨Tryz.underlying104, by kernel_rfl⟩
theorem ap_EdgeS : ApOk Tryz.prog 104 176 Edge 16 := apOk Tryz.underlying104 (by kernel_rfl) (by decide)
theorem ld_EntryS : TyOk Tryz.prog 124 (List Entry) := ⟨by kernel_rfl, fun _ => rfl, _, Tryz.underlying124, rfl⟩
theorem sl_EntryS : SlOk Tryz.prog 124 131 Entry := ⟨Tryz.underlying124, by kernel_rfl⟩
theorem ap_EntryS : ApOk Tryz.prog 124 131 Entry 32 := apOk Tryz.underlying124 (by kernel_rfl) (by decide)
theorem ld_TaskS : TyOk Tryz.prog 121 (List Task) := ⟨by kernel_rfl, fun _ => rfl, _, Tryz.underlying121, rfl⟩
theorem sl_TaskS : SlOk Tryz.prog 121 140 Task := ⟨Tryz.underlying121, by kernel_rfl⟩
theorem ap_TaskS : ApOk Tryz.prog 121 140 Task 32 := apOk Tryz.underlying121 (by kernel_rfl) (by decide)
theorem ld_RunS : TyOk Tryz.prog 32 (List Run) := ⟨by kernel_rfl, fun _ => rfl, _, Tryz.underlying32, rfl⟩
theorem sl_RunS : SlOk Tryz.prog 32 123 Run := ⟨Tryz.underlying32, by kernel_rfl⟩
theorem ap_RunS : ApOk Tryz.prog 32 123 Run 96 := apOk Tryz.underlying32 (by kernel_rfl) (by decide)
theorem ld_EntrySS : TyOk Tryz.prog 31 (List (List Entry)) := ⟨by kernel_rfl, fun _ => rfl, _, Tryz.underlying31, rfl⟩
theorem sl_EntrySS : SlOk Tryz.prog 31 124 (List Entry) := ⟨Tryz.underlying31, by kernel_rfl⟩
theorem ap_EntrySS : ApOk Tryz.prog 31 124 (List Entry) 24 := apOk Tryz.underlying31 (by kernel_rfl) (by decide)
theorem ld_ReplyS : TyOk Tryz.prog 35 (List Reply) := ⟨by kernel_rfl, fun _ => rfl, _, Tryz.underlying35, rfl⟩
theorem sl_ReplyS : SlOk Tryz.prog 35 75 Reply := ⟨Tryz.underlying35, by kernel_rfl⟩
theorem ap_ReplyS : ApOk Tryz.prog 35 75 Reply 32 := apOk Tryz.underlying35 (by kernel_rfl) (by decide)
theorem ld_SpanS : TyOk Tryz.prog 62 (List Span) := ⟨by kernel_rfl, fun _ => rfl, _, Tryz.underlying62, rfl⟩
theorem sl_SpanS : SlOk Tryz.prog 62 110 Span := ⟨Tryz.underlying62, by kernel_rfl⟩
theorem ap_SpanS : ApOk Tryz.prog 62 110 Span 152 := apOk Tryz.underlying62 (by kernel_rfl) (by decide)
theorem ld_EdgeL : TyOk Tryz.prog 228 Edge := ⟨by kernel_rfl, (fun h => by cases h), _, Tryz.underlying228, _, rfl⟩
theorem zz_EdgeL : ZeroOk Tryz.prog 228 [I 0, I 0] := by unfold ZeroOk; kernel_rfl
theorem fa_EdgeL_0 : FieldOk Tryz.prog 228 0 0 := fieldOk Tryz.underlying228 rfl rfl (by kernel_rfl)
theorem fa_EdgeL_1 : FieldOk Tryz.prog 228 1 1 := fieldOk Tryz.underlying228 rfl rfl (by kernel_rfl)
theorem ld_PlanL : TyOk Tryz.prog 96 Plan := ⟨by kernel_rfl, (fun h => by cases h), _, Tryz.underlying96, _, rfl⟩
theorem zz_PlanL : ZeroOk Tryz.prog 96 [I 0, I 0, I 0, I 0, .slice none 0 0] := by unfold ZeroOk; kernel_rfl
theorem fa_PlanL_0 : FieldOk Tryz.prog 96 0 0 := fieldOk Tryz.underlying96 rfl rfl (by kernel_rfl)
theorem fa_PlanL_1 : FieldOk Tryz.prog 96 1 1 := fieldOk Tryz.underlying96 rfl rfl (by kernel_rfl)
theorem fa_PlanL_2 : FieldOk Tryz.prog 96 2 2 := fieldOk Tryz.underlying96 rfl rfl (by kernel_rfl)
theorem fa_PlanL_3 : FieldOk Tryz.prog 96 3 3 := fieldOk Tryz.underlying96 rfl rfl (by kernel_rfl)
theorem fa_PlanL_4 : FieldOk Tryz.prog 96 4 4 := fieldOk Tryz.underlying96 rfl rfl (by kernel_rfl)
theorem ld_EntryL : TyOk Tryz.prog 188 Entry := ⟨by kernel_rfl, (fun h => by cases h), _, Tryz.underlying188, _, rfl⟩
theorem zz_EntryL : ZeroOk Tryz.prog 188 [I 0, I 0, I 0, I 0] := by unfold ZeroOk; kernel_rfl
theorem fa_EntryL_0 : FieldOk Tryz.prog 188 0 0 := fieldOk Tryz.underlying188 rfl rfl (by kernel_rfl)
theorem fa_EntryL_1 : FieldOk Tryz.prog 188 1 1 := fieldOk Tryz.underlying188 rfl rfl (by kernel_rfl)
theorem fa_EntryL_2 : FieldOk Tryz.prog 188 2 2 := fieldOk Tryz.underlying188 rfl rfl (by kernel_rfl)
theorem fa_EntryL_3 : FieldOk Tryz.prog 188 3 3 := fieldOk Tryz.underlying188 rfl rfl (by kernel_rfl)
theorem ld_TaskL : TyOk Tryz.prog 218 Task := ⟨by kernel_rfl, (fun h => by cases h), _, Tryz.underlying218, _, rfl⟩
theorem zz_TaskL : ZeroOk Tryz.prog 218 [I 0, I 0, I 0, I 0] := by unfold ZeroOk; kernel_rfl
theorem fa_TaskL_0 : FieldOk Tryz.prog 218 0 0 := fieldOk Tryz.underlying218 rfl rfl (by kernel_rfl)
theorem fa_TaskL_1 : FieldOk Tryz.prog 218 1 1 := fieldOk Tryz.underlying218 rfl rfl (by kernel_rfl)
theorem fa_TaskL_2 : FieldOk Tryz.prog 218 2 2 := fieldOk Tryz.underlying218 rfl rfl (by kernel_rfl)
theorem fa_TaskL_3 : FieldOk Tryz.prog 218 3 3 := fieldOk Tryz.underlying218 rfl rfl (by kernel_rfl)
theorem ld_RunL : TyOk Tryz.prog 138 Run := ⟨by kernel_rfl, (fun h => by cases h), _, Tryz.underlying138, _, rfl⟩
theorem zz_RunL : ZeroOk Tryz.prog 138 [I 0, I 0, I 0, I 0, I 0, .slice none 0 0, I 0, .slice none 0 0] := by unfold ZeroOk; kernel_rfl
theorem fa_RunL_0 : FieldOk Tryz.prog 138 0 0 := fieldOk Tryz.underlying138 rfl rfl (by kernel_rfl)
theorem fa_RunL_1 : FieldOk Tryz.prog 138 1 1 := fieldOk Tryz.underlying138 rfl rfl (by kernel_rfl)
theorem fa_RunL_2 : FieldOk Tryz.prog 138 2 6 := fieldOk Tryz.underlying138 rfl rfl (by kernel_rfl)
theorem fa_RunL_3 : FieldOk Tryz.prog 138 3 7 := fieldOk Tryz.underlying138 rfl rfl (by kernel_rfl)
theorem ld_YardL : TyOk Tryz.prog 25 Yard := ⟨by kernel_rfl, (fun h => by cases h), _, Tryz.underlying25, _, rfl⟩
theorem zz_YardL : ZeroOk Tryz.prog 25 [I 0, I 0, .slice none 0 0, .slice none 0 0] := by unfold ZeroOk; kernel_rfl
theorem fa_YardL_0 : FieldOk Tryz.prog 25 0 0 := fieldOk Tryz.underlying25 rfl rfl (by kernel_rfl)
theorem fa_YardL_1 : FieldOk Tryz.prog 25 1 1 := fieldOk Tryz.underlying25 rfl rfl (by kernel_rfl)
theorem fa_YardL_2 : FieldOk Tryz.prog 25 2 2 := fieldOk Tryz.underlying25 rfl rfl (by kernel_rfl)
theorem fa_YardL_3 : FieldOk Tryz.prog 25 3 3 := fieldOk Tryz.underlying25 rfl rfl (by kernel_rfl)
theorem ld_ReplyL : TyOk Tryz.prog 99 Reply := ⟨by kernel_rfl, (fun h => by cases h), _, Tryz.underlying99, _, rfl⟩
theorem zz_ReplyL : ZeroOk Tryz.prog 99 [I 0, I 0, I 0, I 0] := by unfold ZeroOk; kernel_rfl
theorem fa_ReplyL_0 : FieldOk Tryz.prog 99 0 0 := fieldOk Tryz.underlying99 rfl rfl (by kernel_rfl)
theorem fa_ReplyL_1 : FieldOk Tryz.prog 99 1 1 := fieldOk Tryz.underlying99 rfl rfl (by kernel_rfl)
theorem fa_ReplyL_2 : FieldOk Tryz.prog 99 2 2 := fieldOk Tryz.underlying99 rfl rfl (by kernel_rfl)
theorem fa_ReplyL_3 : FieldOk Tryz.prog 99 3 3 := fieldOk Tryz.underlying99 rfl rfl (by kernel_rfl)
theorem ld_DeedL : TyOk Tryz.prog 98 Deed := ⟨by kernel_rfl, (fun h => by cases h), _, Tryz.underlying98, _, rfl⟩
theorem zz_DeedL : ZeroOk Tryz.prog 98 [I 0, I 0, I 0, I 0, I 0, I 0, .slice none 0 0, I 0, I 0, I 0, I 0] := by unfold ZeroOk; kernel_rfl
theorem fa_DeedL_0 : FieldOk Tryz.prog 98 0 0 := fieldOk Tryz.underlying98 rfl rfl (by kernel_rfl)
theorem fa_DeedL_1 : FieldOk Tryz.prog 98 1 1 := fieldOk Tryz.underlying98 rfl rfl (by kernel_rfl)
theorem fa_DeedL_2 : FieldOk Tryz.prog 98 2 2 := fieldOk Tryz.underlying98 rfl rfl (by kernel_rfl)
theorem fa_DeedL_3 : FieldOk Tryz.prog 98 3 7 := fieldOk Tryz.underlying98 rfl rfl (by kernel_rfl)
theorem fa_DeedL_4 : FieldOk Tryz.prog 98 4 8 := fieldOk Tryz.underlying98 rfl rfl (by kernel_rfl)
theorem fa_DeedL_5 : FieldOk Tryz.prog 98 5 9 := fieldOk Tryz.underlying98 rfl rfl (by kernel_rfl)
theorem fa_DeedL_6 : FieldOk Tryz.prog 98 6 10 := fieldOk Tryz.underlying98 rfl rfl (by kernel_rfl)
theorem ld_SpanL : TyOk Tryz.prog 101 Span := ⟨by kernel_rfl, (fun h => by cases h), _, Tryz.underlying101, _, rfl⟩
theorem zz_SpanL : ZeroOk Tryz.prog 101 [I 0, I 0, I 0, I 0, I 0, I 0, .slice none 0 0, I 0, I 0, I 0, I 0, I 0, I 0, I 0, I 0, I 0, I 0] := by unfold ZeroOk; kernel_rfl
theorem fa_SpanL_0 : FieldOk Tryz.prog 101 0 0 := fieldOk Tryz.underlying101 rfl rfl (by kernel_rfl)
theorem fa_SpanL_1 : FieldOk Tryz.prog 101 1 11 := fieldOk Tryz.underlying101 rfl rfl (by kernel_rfl)
theorem fa_SpanL_2 : FieldOk Tryz.prog 101 2 12 := fieldOk Tryz.underlying101 rfl rfl (by kernel_rfl)
theorem fa_SpanL_3 : FieldOk Tryz.prog 101 3 13 := fieldOk Tryz.underlying101 rfl rfl (by kernel_rfl)
theorem ld_CrewL : TyOk Tryz.prog 28 Crew := ⟨by kernel_rfl, (fun h => by cases h), _, Tryz.underlying28, _, rfl⟩
theorem zz_CrewL : ZeroOk Tryz.prog 28 [I 0, I 0, .slice none 0 0, .slice none 0 0, .slice none 0 0, I 0, I 0] := by unfold ZeroOk; kernel_rfl
theorem fa_CrewL_0 : FieldOk Tryz.prog 28 0 0 := fieldOk Tryz.underlying28 rfl rfl (by kernel_rfl)
theorem fa_CrewL_1 : FieldOk Tryz.prog 28 1 4 := fieldOk Tryz.underlying28 rfl rfl (by kernel_rfl)
theorem fa_CrewL_2 : FieldOk Tryz.prog 28 2 5 := fieldOk Tryz.underlying28 rfl rfl (by kernel_rfl)
theorem fa_CrewL_3 : FieldOk Tryz.prog 28 3 6 := fieldOk Tryz.underlying28 rfl rfl (by kernel_rfl)
theorem ld_EdgeSL : TyOk Tryz.prog 94 (List Edge) := ⟨by kernel_rfl, fun _ => rfl, _, Tryz.underlying94, rfl⟩
theorem sl_EdgeSL : SlOk Tryz.prog 94 228 Edge := ⟨Tryz.underlying94, by kernel_rfl⟩
theorem ap_EdgeSL : ApOk Tryz.prog 94 228 Edge 16 := apOk Tryz.underlying94 (by kernel_rfl) (by decide)
theorem ld_EntrySL : TyOk Tryz.prog 134 (List Entry) := ⟨by kernel_rfl, fun _ => rfl, _, Tryz.underlying134, rfl⟩
theorem sl_EntrySL : SlOk Tryz.prog 134 188 Entry := ⟨Tryz.underlying134, by kernel_rfl⟩
theorem ap_EntrySL : ApOk Tryz.prog 134 188 Entry 32 := apOk Tryz.underlying134 (by kernel_rfl) (by decide)
theorem ld_TaskSL : TyOk Tryz.prog 136 (List Task) := ⟨by kernel_rfl, fun _ => rfl, _, Tryz.underlying136, rfl⟩
theorem sl_TaskSL : SlOk Tryz.prog 136 218 Task := ⟨Tryz.underlying136, by kernel_rfl⟩
theorem ap_TaskSL : ApOk Tryz.prog 136 218 Task 32 := apOk Tryz.underlying136 (by kernel_rfl) (by decide)
theorem ld_RunSL : TyOk Tryz.prog 23 (List Run) := ⟨by kernel_rfl, fun _ => rfl, _, Tryz.underlying23, rfl⟩
theorem sl_RunSL : SlOk Tryz.prog 23 138 Run := ⟨Tryz.underlying23, by kernel_rfl⟩
theorem ap_RunSL : ApOk Tryz.prog 23 138 Run 96 := apOk Tryz.underlying23 (by kernel_rfl) (by decide)
theorem ld_EntrySSL : TyOk Tryz.prog 22 (List (List Entry)) := ⟨by kernel_rfl, fun _ => rfl, _, Tryz.underlying22, rfl⟩
theorem sl_EntrySSL : SlOk Tryz.prog 22 134 (List Entry) := ⟨Tryz.underlying22, by kernel_rfl⟩
theorem ap_EntrySSL : ApOk Tryz.prog 22 134 (List Entry) 24 := apOk Tryz.underlying22 (by kernel_rfl) (by decide)
theorem ld_ReplySL : TyOk Tryz.prog 26 (List Reply) := ⟨by kernel_rfl, fun _ => rfl, _, Tryz.underlying26, rfl⟩
theorem sl_ReplySL : SlOk Tryz.prog 26 99 Reply := ⟨Tryz.underlying26, by kernel_rfl⟩
theorem ap_ReplySL : ApOk Tryz.prog 26 99 Reply 32 := apOk Tryz.underlying26 (by kernel_rfl) (by decide)
theorem ld_SpanSL : TyOk Tryz.prog 59 (List Span) := ⟨by kernel_rfl, fun _ => rfl, _, Tryz.underlying59, rfl⟩
theorem sl_SpanSL : SlOk Tryz.prog 59 101 Span := ⟨Tryz.underlying59, by kernel_rfl⟩
theorem ap_SpanSL : ApOk Tryz.prog 59 101 Span 152 := apOk Tryz.underlying59 (by kernel_rfl) (by decide)

/-! ### Fields -/
theorem At.Edge_from_ {w : World} {b o : Nat} {x : Edge} {fp : List Nat} (h : At w b o x fp) : ∃ f1, At w b (o + 0) x.from_ f1 ∧ ∀ c ∈ f1, c ∈ fp := by
  obtain ⟨cs, hr, hc⟩ := h
  obtain ⟨rfl, rfl, hok⟩ := hc
  refine ⟨[], ⟨[I x.from_], fun j v hj => ?_, ⟨rfl, rfl, hok.1⟩⟩, by simp⟩
  have := hr (0 + j) v (by rcases j with _ | j <;> first | exact hj | simp at hj)
  rw [← this, Nat.add_assoc]
theorem At.Edge_to_ {w : World} {b o : Nat} {x : Edge} {fp : List Nat} (h : At w b o x fp) : ∃ f1, At w b (o + 1) x.to_ f1 ∧ ∀ c ∈ f1, c ∈ fp := by
  obtain ⟨cs, hr, hc⟩ := h
  obtain ⟨rfl, rfl, hok⟩ := hc
  refine ⟨[], ⟨[I x.to_], fun j v hj => ?_, ⟨rfl, rfl, hok.2⟩⟩, by simp⟩
  have := hr (1 + j) v (by rcases j with _ | j <;> first | exact hj | simp at hj)
  rw [← this, Nat.add_assoc]
theorem At.Plan_prio {w : World} {b o : Nat} {x : Plan} {fp : List Nat} (h : At w b o x fp) : ∃ f1, At w b (o + 0) x.prio f1 ∧ ∀ c ∈ f1, c ∈ fp := by
  obtain ⟨cs, hr, hc⟩ := h
  obtain ⟨v1, f1, rfl, hok, h1, hfp⟩ := hc
  refine ⟨[], ⟨[I x.prio], fun j v hj => ?_, ⟨rfl, rfl, hok.1⟩⟩, by simp⟩
  have := hr (0 + j) v (by rcases j with _ | j <;> first | exact hj | simp at hj)
  rw [← this, Nat.add_assoc]
theorem At.Plan_most {w : World} {b o : Nat} {x : Plan} {fp : List Nat} (h : At w b o x fp) : ∃ f1, At w b (o + 1) x.most f1 ∧ ∀ c ∈ f1, c ∈ fp := by
  obtain ⟨cs, hr, hc⟩ := h
  obtain ⟨v1, f1, rfl, hok, h1, hfp⟩ := hc
  refine ⟨[], ⟨[I x.most], fun j v hj => ?_, ⟨rfl, rfl, hok.2.1⟩⟩, by simp⟩
  have := hr (1 + j) v (by rcases j with _ | j <;> first | exact hj | simp at hj)
  rw [← this, Nat.add_assoc]
theorem At.Plan_wait {w : World} {b o : Nat} {x : Plan} {fp : List Nat} (h : At w b o x fp) : ∃ f1, At w b (o + 2) x.wait f1 ∧ ∀ c ∈ f1, c ∈ fp := by
  obtain ⟨cs, hr, hc⟩ := h
  obtain ⟨v1, f1, rfl, hok, h1, hfp⟩ := hc
  refine ⟨[], ⟨[I x.wait], fun j v hj => ?_, ⟨rfl, rfl, hok.2.2.1⟩⟩, by simp⟩
  have := hr (2 + j) v (by rcases j with _ | j <;> first | exact hj | simp at hj)
  rw [← this, Nat.add_assoc]
theorem At.Plan_tasks {w : World} {b o : Nat} {x : Plan} {fp : List Nat} (h : At w b o x fp) : ∃ f1, At w b (o + 3) x.tasks f1 ∧ ∀ c ∈ f1, c ∈ fp := by
  obtain ⟨cs, hr, hc⟩ := h
  obtain ⟨v1, f1, rfl, hok, h1, hfp⟩ := hc
  refine ⟨[], ⟨[I x.tasks], fun j v hj => ?_, ⟨rfl, rfl, hok.2.2.2⟩⟩, by simp⟩
  have := hr (3 + j) v (by rcases j with _ | j <;> first | exact hj | simp at hj)
  rw [← this, Nat.add_assoc]
theorem At.Plan_edges {w : World} {b o : Nat} {x : Plan} {fp : List Nat} (h : At w b o x fp) : ∃ f1, At w b (o + 4) x.edges f1 ∧ ∀ c ∈ f1, c ∈ fp := by
  obtain ⟨cs, hr, hc⟩ := h
  obtain ⟨v1, f1, rfl, hok, h1, hfp⟩ := hc
  refine ⟨f1, ⟨[v1], fun j v hj => ?_, ⟨v1, rfl, h1⟩⟩, fun c hc => by rw [hfp]; first | (simp [hc]; done) | grind⟩
  have := hr (4 + j) v (by rcases j with _ | j <;> first | exact hj | simp at hj)
  rw [← this, Nat.add_assoc]
theorem At.Entry_prio {w : World} {b o : Nat} {x : Entry} {fp : List Nat} (h : At w b o x fp) : ∃ f1, At w b (o + 0) x.prio f1 ∧ ∀ c ∈ f1, c ∈ fp := by
  obtain ⟨cs, hr, hc⟩ := h
  obtain ⟨rfl, rfl, hok⟩ := hc
  refine ⟨[], ⟨[I x.prio], fun j v hj => ?_, ⟨rfl, rfl, hok.1⟩⟩, by simp⟩
  have := hr (0 + j) v (by rcases j with _ | j <;> first | exact hj | simp at hj)
  rw [← this, Nat.add_assoc]
theorem At.Entry_seq {w : World} {b o : Nat} {x : Entry} {fp : List Nat} (h : At w b o x fp) : ∃ f1, At w b (o + 1) x.seq f1 ∧ ∀ c ∈ f1, c ∈ fp := by
  obtain ⟨cs, hr, hc⟩ := h
  obtain ⟨rfl, rfl, hok⟩ := hc
  refine ⟨[], ⟨[I x.seq], fun j v hj => ?_, ⟨rfl, rfl, hok.2.1⟩⟩, by simp⟩
  have := hr (1 + j) v (by rcases j with _ | j <;> first | exact hj | simp at hj)
  rw [← this, Nat.add_assoc]
theorem At.Entry_run {w : World} {b o : Nat} {x : Entry} {fp : List Nat} (h : At w b o x fp) : ∃ f1, At w b (o + 2) x.run f1 ∧ ∀ c ∈ f1, c ∈ fp := by
  obtain ⟨cs, hr, hc⟩ := h
  obtain ⟨rfl, rfl, hok⟩ := hc
  refine ⟨[], ⟨[I x.run], fun j v hj => ?_, ⟨rfl, rfl, hok.2.2.1⟩⟩, by simp⟩
  have := hr (2 + j) v (by rcases j with _ | j <;> first | exact hj | simp at hj)
  rw [← this, Nat.add_assoc]
theorem At.Entry_task {w : World} {b o : Nat} {x : Entry} {fp : List Nat} (h : At w b o x fp) : ∃ f1, At w b (o + 3) x.task f1 ∧ ∀ c ∈ f1, c ∈ fp := by
  obtain ⟨cs, hr, hc⟩ := h
  obtain ⟨rfl, rfl, hok⟩ := hc
  refine ⟨[], ⟨[I x.task], fun j v hj => ?_, ⟨rfl, rfl, hok.2.2.2⟩⟩, by simp⟩
  have := hr (3 + j) v (by rcases j with _ | j <;> first | exact hj | simp at hj)
  rw [← this, Nat.add_assoc]
theorem At.Task_state {w : World} {b o : Nat} {x : Task} {fp : List Nat} (h : At w b o x fp) : ∃ f1, At w b (o + 0) x.state f1 ∧ ∀ c ∈ f1, c ∈ fp := by
  obtain ⟨cs, hr, hc⟩ := h
  obtain ⟨rfl, rfl, hok⟩ := hc
  refine ⟨[], ⟨[I x.state], fun j v hj => ?_, ⟨rfl, rfl, hok.1⟩⟩, by simp⟩
  have := hr (0 + j) v (by rcases j with _ | j <;> first | exact hj | simp at hj)
  rw [← this, Nat.add_assoc]
theorem At.Task_need {w : World} {b o : Nat} {x : Task} {fp : List Nat} (h : At w b o x fp) : ∃ f1, At w b (o + 1) x.need f1 ∧ ∀ c ∈ f1, c ∈ fp := by
  obtain ⟨cs, hr, hc⟩ := h
  obtain ⟨rfl, rfl, hok⟩ := hc
  refine ⟨[], ⟨[I x.need], fun j v hj => ?_, ⟨rfl, rfl, hok.2.1⟩⟩, by simp⟩
  have := hr (1 + j) v (by rcases j with _ | j <;> first | exact hj | simp at hj)
  rw [← this, Nat.add_assoc]
theorem At.Task_try_ {w : World} {b o : Nat} {x : Task} {fp : List Nat} (h : At w b o x fp) : ∃ f1, At w b (o + 2) x.try_ f1 ∧ ∀ c ∈ f1, c ∈ fp := by
  obtain ⟨cs, hr, hc⟩ := h
  obtain ⟨rfl, rfl, hok⟩ := hc
  refine ⟨[], ⟨[I x.try_], fun j v hj => ?_, ⟨rfl, rfl, hok.2.2.1⟩⟩, by simp⟩
  have := hr (2 + j) v (by rcases j with _ | j <;> first | exact hj | simp at hj)
  rw [← this, Nat.add_assoc]
theorem At.Task_until_ {w : World} {b o : Nat} {x : Task} {fp : List Nat} (h : At w b o x fp) : ∃ f1, At w b (o + 3) x.until_ f1 ∧ ∀ c ∈ f1, c ∈ fp := by
  obtain ⟨cs, hr, hc⟩ := h
  obtain ⟨rfl, rfl, hok⟩ := hc
  refine ⟨[], ⟨[I x.until_], fun j v hj => ?_, ⟨rfl, rfl, hok.2.2.2⟩⟩, by simp⟩
  have := hr (3 + j) v (by rcases j with _ | j <;> first | exact hj | simp at hj)
  rw [← this, Nat.add_assoc]
theorem At.Run_id {w : World} {b o : Nat} {x : Run} {fp : List Nat} (h : At w b o x fp) : ∃ f1, At w b (o + 0) x.id f1 ∧ ∀ c ∈ f1, c ∈ fp := by
  obtain ⟨cs, hr, hc⟩ := h
  obtain ⟨v1, v2, f1, f2, rfl, hok, h1, h2, hfp⟩ := hc
  refine ⟨[], ⟨[I x.id], fun j v hj => ?_, ⟨rfl, rfl, hok.1⟩⟩, by simp⟩
  have := hr (0 + j) v (by rcases j with _ | j <;> first | exact hj | simp at hj)
  rw [← this, Nat.add_assoc]
theorem At.Run_plan {w : World} {b o : Nat} {x : Run} {fp : List Nat} (h : At w b o x fp) : ∃ f1, At w b (o + 1) x.plan f1 ∧ ∀ c ∈ f1, c ∈ fp := by
  obtain ⟨cs, hr, hc⟩ := h
  obtain ⟨v1, v2, f1, f2, rfl, hok, h1, h2, hfp⟩ := hc
  refine ⟨f1, ⟨[I x.plan.prio, I x.plan.most, I x.plan.wait, I x.plan.tasks, v1], fun j v hj => ?_, ⟨v1, f1, rfl, hok.2.1, h1, rfl⟩⟩, fun c hc => by rw [hfp]; first | (simp [hc]; done) | grind⟩
  have := hr (1 + j) v (by rcases j with _ | _ | _ | _ | _ | j <;> first | exact hj | simp at hj)
  rw [← this, Nat.add_assoc]
theorem At.Run_state {w : World} {b o : Nat} {x : Run} {fp : List Nat} (h : At w b o x fp) : ∃ f1, At w b (o + 6) x.state f1 ∧ ∀ c ∈ f1, c ∈ fp := by
  obtain ⟨cs, hr, hc⟩ := h
  obtain ⟨v1, v2, f1, f2, rfl, hok, h1, h2, hfp⟩ := hc
  refine ⟨[], ⟨[I x.state], fun j v hj => ?_, ⟨rfl, rfl, hok.2.2⟩⟩, by simp⟩
  have := hr (6 + j) v (by rcases j with _ | j <;> first | exact hj | simp at hj)
  rw [← this, Nat.add_assoc]
theorem At.Run_tasks {w : World} {b o : Nat} {x : Run} {fp : List Nat} (h : At w b o x fp) : ∃ f1, At w b (o + 7) x.tasks f1 ∧ ∀ c ∈ f1, c ∈ fp := by
  obtain ⟨cs, hr, hc⟩ := h
  obtain ⟨v1, v2, f1, f2, rfl, hok, h1, h2, hfp⟩ := hc
  refine ⟨f2, ⟨[v2], fun j v hj => ?_, ⟨v2, rfl, h2⟩⟩, fun c hc => by rw [hfp]; first | (simp [hc]; done) | grind⟩
  have := hr (7 + j) v (by rcases j with _ | j <;> first | exact hj | simp at hj)
  rw [← this, Nat.add_assoc]
theorem At.Yard_now {w : World} {b o : Nat} {x : Yard} {fp : List Nat} (h : At w b o x fp) : ∃ f1, At w b (o + 0) x.now f1 ∧ ∀ c ∈ f1, c ∈ fp := by
  obtain ⟨cs, hr, hc⟩ := h
  obtain ⟨v1, v2, f1, f2, rfl, hok, h1, h2, hfp⟩ := hc
  refine ⟨[], ⟨[I x.now], fun j v hj => ?_, ⟨rfl, rfl, hok.1⟩⟩, by simp⟩
  have := hr (0 + j) v (by rcases j with _ | j <;> first | exact hj | simp at hj)
  rw [← this, Nat.add_assoc]
theorem At.Yard_seq {w : World} {b o : Nat} {x : Yard} {fp : List Nat} (h : At w b o x fp) : ∃ f1, At w b (o + 1) x.seq f1 ∧ ∀ c ∈ f1, c ∈ fp := by
  obtain ⟨cs, hr, hc⟩ := h
  obtain ⟨v1, v2, f1, f2, rfl, hok, h1, h2, hfp⟩ := hc
  refine ⟨[], ⟨[I x.seq], fun j v hj => ?_, ⟨rfl, rfl, hok.2⟩⟩, by simp⟩
  have := hr (1 + j) v (by rcases j with _ | j <;> first | exact hj | simp at hj)
  rw [← this, Nat.add_assoc]
theorem At.Yard_shelf {w : World} {b o : Nat} {x : Yard} {fp : List Nat} (h : At w b o x fp) : ∃ f1, At w b (o + 2) x.shelf f1 ∧ ∀ c ∈ f1, c ∈ fp := by
  obtain ⟨cs, hr, hc⟩ := h
  obtain ⟨v1, v2, f1, f2, rfl, hok, h1, h2, hfp⟩ := hc
  refine ⟨f1, ⟨[v1], fun j v hj => ?_, ⟨v1, rfl, h1⟩⟩, fun c hc => by rw [hfp]; first | (simp [hc]; done) | grind⟩
  have := hr (2 + j) v (by rcases j with _ | j <;> first | exact hj | simp at hj)
  rw [← this, Nat.add_assoc]
theorem At.Yard_runs {w : World} {b o : Nat} {x : Yard} {fp : List Nat} (h : At w b o x fp) : ∃ f1, At w b (o + 3) x.runs f1 ∧ ∀ c ∈ f1, c ∈ fp := by
  obtain ⟨cs, hr, hc⟩ := h
  obtain ⟨v1, v2, f1, f2, rfl, hok, h1, h2, hfp⟩ := hc
  refine ⟨f2, ⟨[v2], fun j v hj => ?_, ⟨v2, rfl, h2⟩⟩, fun c hc => by rw [hfp]; first | (simp [hc]; done) | grind⟩
  have := hr (3 + j) v (by rcases j with _ | j <;> first | exact hj | simp at hj)
  rw [← this, Nat.add_assoc]
theorem At.Reply_code {w : World} {b o : Nat} {x : Reply} {fp : List Nat} (h : At w b o x fp) : ∃ f1, At w b (o + 0) x.code f1 ∧ ∀ c ∈ f1, c ∈ fp := by
  obtain ⟨cs, hr, hc⟩ := h
  obtain ⟨rfl, rfl, hok⟩ := hc
  refine ⟨[], ⟨[I x.code], fun j v hj => ?_, ⟨rfl, rfl, hok.1⟩⟩, by simp⟩
  have := hr (0 + j) v (by rcases j with _ | j <;> first | exact hj | simp at hj)
  rw [← this, Nat.add_assoc]
theorem At.Reply_run {w : World} {b o : Nat} {x : Reply} {fp : List Nat} (h : At w b o x fp) : ∃ f1, At w b (o + 1) x.run f1 ∧ ∀ c ∈ f1, c ∈ fp := by
  obtain ⟨cs, hr, hc⟩ := h
  obtain ⟨rfl, rfl, hok⟩ := hc
  refine ⟨[], ⟨[I x.run], fun j v hj => ?_, ⟨rfl, rfl, hok.2.1⟩⟩, by simp⟩
  have := hr (1 + j) v (by rcases j with _ | j <;> first | exact hj | simp at hj)
  rw [← this, Nat.add_assoc]
theorem At.Reply_task {w : World} {b o : Nat} {x : Reply} {fp : List Nat} (h : At w b o x fp) : ∃ f1, At w b (o + 2) x.task f1 ∧ ∀ c ∈ f1, c ∈ fp := by
  obtain ⟨cs, hr, hc⟩ := h
  obtain ⟨rfl, rfl, hok⟩ := hc
  refine ⟨[], ⟨[I x.task], fun j v hj => ?_, ⟨rfl, rfl, hok.2.2.1⟩⟩, by simp⟩
  have := hr (2 + j) v (by rcases j with _ | j <;> first | exact hj | simp at hj)
  rw [← this, Nat.add_assoc]
theorem At.Reply_try_ {w : World} {b o : Nat} {x : Reply} {fp : List Nat} (h : At w b o x fp) : ∃ f1, At w b (o + 3) x.try_ f1 ∧ ∀ c ∈ f1, c ∈ fp := by
  obtain ⟨cs, hr, hc⟩ := h
  obtain ⟨rfl, rfl, hok⟩ := hc
  refine ⟨[], ⟨[I x.try_], fun j v hj => ?_, ⟨rfl, rfl, hok.2.2.2⟩⟩, by simp⟩
  have := hr (3 + j) v (by rcases j with _ | j <;> first | exact hj | simp at hj)
  rw [← this, Nat.add_assoc]
theorem At.Deed_kind {w : World} {b o : Nat} {x : Deed} {fp : List Nat} (h : At w b o x fp) : ∃ f1, At w b (o + 0) x.kind f1 ∧ ∀ c ∈ f1, c ∈ fp := by
  obtain ⟨cs, hr, hc⟩ := h
  obtain ⟨v1, f1, rfl, hok, h1, hfp⟩ := hc
  refine ⟨[], ⟨[I x.kind], fun j v hj => ?_, ⟨rfl, rfl, hok.1⟩⟩, by simp⟩
  have := hr (0 + j) v (by rcases j with _ | j <;> first | exact hj | simp at hj)
  rw [← this, Nat.add_assoc]
theorem At.Deed_run {w : World} {b o : Nat} {x : Deed} {fp : List Nat} (h : At w b o x fp) : ∃ f1, At w b (o + 1) x.run f1 ∧ ∀ c ∈ f1, c ∈ fp := by
  obtain ⟨cs, hr, hc⟩ := h
  obtain ⟨v1, f1, rfl, hok, h1, hfp⟩ := hc
  refine ⟨[], ⟨[I x.run], fun j v hj => ?_, ⟨rfl, rfl, hok.2.1⟩⟩, by simp⟩
  have := hr (1 + j) v (by rcases j with _ | j <;> first | exact hj | simp at hj)
  rw [← this, Nat.add_assoc]
theorem At.Deed_plan {w : World} {b o : Nat} {x : Deed} {fp : List Nat} (h : At w b o x fp) : ∃ f1, At w b (o + 2) x.plan f1 ∧ ∀ c ∈ f1, c ∈ fp := by
  obtain ⟨cs, hr, hc⟩ := h
  obtain ⟨v1, f1, rfl, hok, h1, hfp⟩ := hc
  refine ⟨f1, ⟨[I x.plan.prio, I x.plan.most, I x.plan.wait, I x.plan.tasks, v1], fun j v hj => ?_, ⟨v1, f1, rfl, hok.2.2.1, h1, rfl⟩⟩, fun c hc => by rw [hfp]; first | (simp [hc]; done) | grind⟩
  have := hr (2 + j) v (by rcases j with _ | _ | _ | _ | _ | j <;> first | exact hj | simp at hj)
  rw [← this, Nat.add_assoc]
theorem At.Deed_task {w : World} {b o : Nat} {x : Deed} {fp : List Nat} (h : At w b o x fp) : ∃ f1, At w b (o + 7) x.task f1 ∧ ∀ c ∈ f1, c ∈ fp := by
  obtain ⟨cs, hr, hc⟩ := h
  obtain ⟨v1, f1, rfl, hok, h1, hfp⟩ := hc
  refine ⟨[], ⟨[I x.task], fun j v hj => ?_, ⟨rfl, rfl, hok.2.2.2.1⟩⟩, by simp⟩
  have := hr (7 + j) v (by rcases j with _ | j <;> first | exact hj | simp at hj)
  rw [← this, Nat.add_assoc]
theorem At.Deed_try_ {w : World} {b o : Nat} {x : Deed} {fp : List Nat} (h : At w b o x fp) : ∃ f1, At w b (o + 8) x.try_ f1 ∧ ∀ c ∈ f1, c ∈ fp := by
  obtain ⟨cs, hr, hc⟩ := h
  obtain ⟨v1, f1, rfl, hok, h1, hfp⟩ := hc
  refine ⟨[], ⟨[I x.try_], fun j v hj => ?_, ⟨rfl, rfl, hok.2.2.2.2.1⟩⟩, by simp⟩
  have := hr (8 + j) v (by rcases j with _ | j <;> first | exact hj | simp at hj)
  rw [← this, Nat.add_assoc]
theorem At.Deed_worker {w : World} {b o : Nat} {x : Deed} {fp : List Nat} (h : At w b o x fp) : ∃ f1, At w b (o + 9) x.worker f1 ∧ ∀ c ∈ f1, c ∈ fp := by
  obtain ⟨cs, hr, hc⟩ := h
  obtain ⟨v1, f1, rfl, hok, h1, hfp⟩ := hc
  refine ⟨[], ⟨[I x.worker], fun j v hj => ?_, ⟨rfl, rfl, hok.2.2.2.2.2.1⟩⟩, by simp⟩
  have := hr (9 + j) v (by rcases j with _ | j <;> first | exact hj | simp at hj)
  rw [← this, Nat.add_assoc]
theorem At.Deed_draw {w : World} {b o : Nat} {x : Deed} {fp : List Nat} (h : At w b o x fp) : ∃ f1, At w b (o + 10) x.draw f1 ∧ ∀ c ∈ f1, c ∈ fp := by
  obtain ⟨cs, hr, hc⟩ := h
  obtain ⟨v1, f1, rfl, hok, h1, hfp⟩ := hc
  refine ⟨[], ⟨[I x.draw], fun j v hj => ?_, ⟨rfl, rfl, hok.2.2.2.2.2.2⟩⟩, by simp⟩
  have := hr (10 + j) v (by rcases j with _ | j <;> first | exact hj | simp at hj)
  rw [← this, Nat.add_assoc]
theorem At.Note_seq {w : World} {b o : Nat} {x : Note} {fp : List Nat} (h : At w b o x fp) : ∃ f1, At w b (o + 0) x.seq f1 ∧ ∀ c ∈ f1, c ∈ fp := by
  obtain ⟨cs, hr, hc⟩ := h
  obtain ⟨v1, f1, rfl, hok, h1, hfp⟩ := hc
  refine ⟨[], ⟨[I x.seq], fun j v hj => ?_, ⟨rfl, rfl, hok.1⟩⟩, by simp⟩
  have := hr (0 + j) v (by rcases j with _ | j <;> first | exact hj | simp at hj)
  rw [← this, Nat.add_assoc]
theorem At.Note_deed {w : World} {b o : Nat} {x : Note} {fp : List Nat} (h : At w b o x fp) : ∃ f1, At w b (o + 1) x.deed f1 ∧ ∀ c ∈ f1, c ∈ fp := by
  obtain ⟨cs, hr, hc⟩ := h
  obtain ⟨v1, f1, rfl, hok, h1, hfp⟩ := hc
  refine ⟨f1, ⟨[I x.deed.kind, I x.deed.run, I x.deed.plan.prio, I x.deed.plan.most, I x.deed.plan.wait, I x.deed.plan.tasks, v1, I x.deed.task, I x.deed.try_, I x.deed.worker, I x.deed.draw], fun j v hj => ?_, ⟨v1, f1, rfl, hok.2, h1, rfl⟩⟩, fun c hc => by rw [hfp]; first | (simp [hc]; done) | grind⟩
  have := hr (1 + j) v (by rcases j with _ | _ | _ | _ | _ | _ | _ | _ | _ | _ | _ | j <;> first | exact hj | simp at hj)
  rw [← this, Nat.add_assoc]
theorem At.Wait_call {w : World} {b o : Nat} {x : Wait} {fp : List Nat} (h : At w b o x fp) : ∃ f1, At w b (o + 0) x.call f1 ∧ ∀ c ∈ f1, c ∈ fp := by
  obtain ⟨cs, hr, hc⟩ := h
  obtain ⟨rfl, rfl, hok⟩ := hc
  refine ⟨[], ⟨[I x.call], fun j v hj => ?_, ⟨rfl, rfl, hok.1⟩⟩, by simp⟩
  have := hr (0 + j) v (by rcases j with _ | j <;> first | exact hj | simp at hj)
  rw [← this, Nat.add_assoc]
theorem At.Wait_reply {w : World} {b o : Nat} {x : Wait} {fp : List Nat} (h : At w b o x fp) : ∃ f1, At w b (o + 1) x.reply f1 ∧ ∀ c ∈ f1, c ∈ fp := by
  obtain ⟨cs, hr, hc⟩ := h
  obtain ⟨rfl, rfl, hok⟩ := hc
  refine ⟨[], ⟨[I x.reply.code, I x.reply.run, I x.reply.task, I x.reply.try_], fun j v hj => ?_, ⟨rfl, rfl, hok.2⟩⟩, by simp⟩
  have := hr (1 + j) v (by rcases j with _ | _ | _ | _ | j <;> first | exact hj | simp at hj)
  rw [← this, Nat.add_assoc]
theorem At.File_name {w : World} {b o : Nat} {x : File} {fp : List Nat} (h : At w b o x fp) : ∃ f1, At w b (o + 0) x.name f1 ∧ ∀ c ∈ f1, c ∈ fp := by
  obtain ⟨cs, hr, hc⟩ := h
  obtain ⟨rfl, rfl, hok⟩ := hc
  refine ⟨[], ⟨[.string x.name], fun j v hj => ?_, ⟨rfl, rfl, hok.1⟩⟩, by simp⟩
  have := hr (0 + j) v (by rcases j with _ | j <;> first | exact hj | simp at hj)
  rw [← this, Nat.add_assoc]
theorem At.File_data {w : World} {b o : Nat} {x : File} {fp : List Nat} (h : At w b o x fp) : ∃ f1, At w b (o + 1) x.data f1 ∧ ∀ c ∈ f1, c ∈ fp := by
  obtain ⟨cs, hr, hc⟩ := h
  obtain ⟨rfl, rfl, hok⟩ := hc
  refine ⟨[], ⟨[.string x.data], fun j v hj => ?_, ⟨rfl, rfl, hok.2.1⟩⟩, by simp⟩
  have := hr (1 + j) v (by rcases j with _ | j <;> first | exact hj | simp at hj)
  rw [← this, Nat.add_assoc]
theorem At.File_safe {w : World} {b o : Nat} {x : File} {fp : List Nat} (h : At w b o x fp) : ∃ f1, At w b (o + 2) x.safe f1 ∧ ∀ c ∈ f1, c ∈ fp := by
  obtain ⟨cs, hr, hc⟩ := h
  obtain ⟨rfl, rfl, hok⟩ := hc
  refine ⟨[], ⟨[I x.safe], fun j v hj => ?_, ⟨rfl, rfl, hok.2.2⟩⟩, by simp⟩
  have := hr (2 + j) v (by rcases j with _ | j <;> first | exact hj | simp at hj)
  rw [← this, Nat.add_assoc]
theorem At.Disk_files {w : World} {b o : Nat} {x : Disk} {fp : List Nat} (h : At w b o x fp) : ∃ f1, At w b (o + 0) x.files f1 ∧ ∀ c ∈ f1, c ∈ fp := by
  obtain ⟨cs, hr, hc⟩ := h
  obtain ⟨v1, f1, rfl, hok, h1, hfp⟩ := hc
  refine ⟨f1, ⟨[v1], fun j v hj => ?_, ⟨v1, rfl, h1⟩⟩, fun c hc => by rw [hfp]; first | (simp [hc]; done) | grind⟩
  have := hr (0 + j) v (by rcases j with _ | j <;> first | exact hj | simp at hj)
  rw [← this, Nat.add_assoc]
theorem At.Engine_yard {w : World} {b o : Nat} {x : Engine} {fp : List Nat} (h : At w b o x fp) : ∃ f1, At w b (o + 0) x.yard f1 ∧ ∀ c ∈ f1, c ∈ fp := by
  obtain ⟨cs, hr, hc⟩ := h
  obtain ⟨v1, v2, v3, v4, f1, f2, f3, f4, rfl, hok, h1, h2, h3, h4, hfp⟩ := hc
  refine ⟨f1 ++ (f2), ⟨[I x.yard.now, I x.yard.seq, v1, v2], fun j v hj => ?_, ⟨v1, v2, f1, f2, rfl, hok.1, h1, h2, rfl⟩⟩, fun c hc => by rw [hfp]; first | (simp [hc]; done) | grind⟩
  have := hr (0 + j) v (by rcases j with _ | _ | _ | _ | j <;> first | exact hj | simp at hj)
  rw [← this, Nat.add_assoc]
theorem At.Engine_disk {w : World} {b o : Nat} {x : Engine} {fp : List Nat} (h : At w b o x fp) : ∃ f1, At w b (o + 4) x.disk f1 ∧ ∀ c ∈ f1, c ∈ fp := by
  obtain ⟨cs, hr, hc⟩ := h
  obtain ⟨v1, v2, v3, v4, f1, f2, f3, f4, rfl, hok, h1, h2, h3, h4, hfp⟩ := hc
  refine ⟨f3, ⟨[v3], fun j v hj => ?_, ⟨v3, f3, rfl, trivial, h3, rfl⟩⟩, fun c hc => by rw [hfp]; first | (simp [hc]; done) | grind⟩
  have := hr (4 + j) v (by rcases j with _ | j <;> first | exact hj | simp at hj)
  rw [← this, Nat.add_assoc]
theorem At.Engine_next {w : World} {b o : Nat} {x : Engine} {fp : List Nat} (h : At w b o x fp) : ∃ f1, At w b (o + 5) x.next f1 ∧ ∀ c ∈ f1, c ∈ fp := by
  obtain ⟨cs, hr, hc⟩ := h
  obtain ⟨v1, v2, v3, v4, f1, f2, f3, f4, rfl, hok, h1, h2, h3, h4, hfp⟩ := hc
  refine ⟨[], ⟨[I x.next], fun j v hj => ?_, ⟨rfl, rfl, hok.2.1⟩⟩, by simp⟩
  have := hr (5 + j) v (by rcases j with _ | j <;> first | exact hj | simp at hj)
  rw [← this, Nat.add_assoc]
theorem At.Engine_calls {w : World} {b o : Nat} {x : Engine} {fp : List Nat} (h : At w b o x fp) : ∃ f1, At w b (o + 6) x.calls f1 ∧ ∀ c ∈ f1, c ∈ fp := by
  obtain ⟨cs, hr, hc⟩ := h
  obtain ⟨v1, v2, v3, v4, f1, f2, f3, f4, rfl, hok, h1, h2, h3, h4, hfp⟩ := hc
  refine ⟨[], ⟨[I x.calls], fun j v hj => ?_, ⟨rfl, rfl, hok.2.2.1⟩⟩, by simp⟩
  have := hr (6 + j) v (by rcases j with _ | j <;> first | exact hj | simp at hj)
  rw [← this, Nat.add_assoc]
theorem At.Engine_waits {w : World} {b o : Nat} {x : Engine} {fp : List Nat} (h : At w b o x fp) : ∃ f1, At w b (o + 7) x.waits f1 ∧ ∀ c ∈ f1, c ∈ fp := by
  obtain ⟨cs, hr, hc⟩ := h
  obtain ⟨v1, v2, v3, v4, f1, f2, f3, f4, rfl, hok, h1, h2, h3, h4, hfp⟩ := hc
  refine ⟨f4, ⟨[v4], fun j v hj => ?_, ⟨v4, rfl, h4⟩⟩, fun c hc => by rw [hfp]; first | (simp [hc]; done) | grind⟩
  have := hr (7 + j) v (by rcases j with _ | j <;> first | exact hj | simp at hj)
  rw [← this, Nat.add_assoc]
theorem At.Engine_state {w : World} {b o : Nat} {x : Engine} {fp : List Nat} (h : At w b o x fp) : ∃ f1, At w b (o + 8) x.state f1 ∧ ∀ c ∈ f1, c ∈ fp := by
  obtain ⟨cs, hr, hc⟩ := h
  obtain ⟨v1, v2, v3, v4, f1, f2, f3, f4, rfl, hok, h1, h2, h3, h4, hfp⟩ := hc
  refine ⟨[], ⟨[I x.state], fun j v hj => ?_, ⟨rfl, rfl, hok.2.2.2⟩⟩, by simp⟩
  have := hr (8 + j) v (by rcases j with _ | j <;> first | exact hj | simp at hj)
  rw [← this, Nat.add_assoc]
theorem At.Engine_broken {w : World} {b o : Nat} {x : Engine} {fp : List Nat} (h : At w b o x fp) : ∃ f1, At w b (o + 9) x.broken f1 ∧ ∀ c ∈ f1, c ∈ fp := by
  obtain ⟨cs, hr, hc⟩ := h
  obtain ⟨v1, v2, v3, v4, f1, f2, f3, f4, rfl, hok, h1, h2, h3, h4, hfp⟩ := hc
  refine ⟨[], ⟨[.bool x.broken], fun j v hj => ?_, ⟨rfl, rfl, trivial⟩⟩, by simp⟩
  have := hr (9 + j) v (by rcases j with _ | j <;> first | exact hj | simp at hj)
  rw [← this, Nat.add_assoc]
theorem At.World_engine {w : World} {b o : Nat} {x : WorldD} {fp : List Nat} (h : At w b o x fp) : ∃ f1, At w b (o + 0) x.engine f1 ∧ ∀ c ∈ f1, c ∈ fp := by
  obtain ⟨cs, hr, hc⟩ := h
  obtain ⟨v1, v2, v3, v4, v5, v6, f1, f2, f3, f4, f5, f6, rfl, hok, h1, h2, h3, h4, h5, h6, hfp⟩ := hc
  refine ⟨f1 ++ (f2 ++ (f3 ++ (f4))), ⟨[I x.engine.yard.now, I x.engine.yard.seq, v1, v2, v3, I x.engine.next, I x.engine.calls, v4, I x.engine.state, .bool x.engine.broken], fun j v hj => ?_, ⟨v1, v2, v3, v4, f1, f2, f3, f4, rfl, hok.1, h1, h2, h3, h4, rfl⟩⟩, fun c hc => by rw [hfp]; first | (simp [hc]; done) | grind⟩
  have := hr (0 + j) v (by rcases j with _ | _ | _ | _ | _ | _ | _ | _ | _ | _ | j <;> first | exact hj | simp at hj)
  rw [← this, Nat.add_assoc]
theorem At.World_deeds {w : World} {b o : Nat} {x : WorldD} {fp : List Nat} (h : At w b o x fp) : ∃ f1, At w b (o + 10) x.deeds f1 ∧ ∀ c ∈ f1, c ∈ fp := by
  obtain ⟨cs, hr, hc⟩ := h
  obtain ⟨v1, v2, v3, v4, v5, v6, f1, f2, f3, f4, f5, f6, rfl, hok, h1, h2, h3, h4, h5, h6, hfp⟩ := hc
  refine ⟨f5, ⟨[v5], fun j v hj => ?_, ⟨v5, rfl, h5⟩⟩, fun c hc => by rw [hfp]; first | (simp [hc]; done) | grind⟩
  have := hr (10 + j) v (by rcases j with _ | j <;> first | exact hj | simp at hj)
  rw [← this, Nat.add_assoc]
theorem At.World_replies {w : World} {b o : Nat} {x : WorldD} {fp : List Nat} (h : At w b o x fp) : ∃ f1, At w b (o + 11) x.replies f1 ∧ ∀ c ∈ f1, c ∈ fp := by
  obtain ⟨cs, hr, hc⟩ := h
  obtain ⟨v1, v2, v3, v4, v5, v6, f1, f2, f3, f4, f5, f6, rfl, hok, h1, h2, h3, h4, h5, h6, hfp⟩ := hc
  refine ⟨f6, ⟨[v6], fun j v hj => ?_, ⟨v6, rfl, h6⟩⟩, fun c hc => by rw [hfp]; first | (simp [hc]; done) | grind⟩
  have := hr (11 + j) v (by rcases j with _ | j <;> first | exact hj | simp at hj)
  rw [← this, Nat.add_assoc]
theorem At.World_told {w : World} {b o : Nat} {x : WorldD} {fp : List Nat} (h : At w b o x fp) : ∃ f1, At w b (o + 12) x.told f1 ∧ ∀ c ∈ f1, c ∈ fp := by
  obtain ⟨cs, hr, hc⟩ := h
  obtain ⟨v1, v2, v3, v4, v5, v6, f1, f2, f3, f4, f5, f6, rfl, hok, h1, h2, h3, h4, h5, h6, hfp⟩ := hc
  refine ⟨[], ⟨[I x.told], fun j v hj => ?_, ⟨rfl, rfl, hok.2.1⟩⟩, by simp⟩
  have := hr (12 + j) v (by rcases j with _ | j <;> first | exact hj | simp at hj)
  rw [← this, Nat.add_assoc]
theorem At.World_fell {w : World} {b o : Nat} {x : WorldD} {fp : List Nat} (h : At w b o x fp) : ∃ f1, At w b (o + 13) x.fell f1 ∧ ∀ c ∈ f1, c ∈ fp := by
  obtain ⟨cs, hr, hc⟩ := h
  obtain ⟨v1, v2, v3, v4, v5, v6, f1, f2, f3, f4, f5, f6, rfl, hok, h1, h2, h3, h4, h5, h6, hfp⟩ := hc
  refine ⟨[], ⟨[I x.fell], fun j v hj => ?_, ⟨rfl, rfl, hok.2.2⟩⟩, by simp⟩
  have := hr (13 + j) v (by rcases j with _ | j <;> first | exact hj | simp at hj)
  rw [← this, Nat.add_assoc]
theorem At.Act_kind {w : World} {b o : Nat} {x : ActD} {fp : List Nat} (h : At w b o x fp) : ∃ f1, At w b (o + 0) x.kind f1 ∧ ∀ c ∈ f1, c ∈ fp := by
  obtain ⟨cs, hr, hc⟩ := h
  obtain ⟨v1, v2, f1, f2, rfl, hok, h1, h2, hfp⟩ := hc
  refine ⟨[], ⟨[I x.kind], fun j v hj => ?_, ⟨rfl, rfl, hok.1⟩⟩, by simp⟩
  have := hr (0 + j) v (by rcases j with _ | j <;> first | exact hj | simp at hj)
  rw [← this, Nat.add_assoc]
theorem At.Act_deed {w : World} {b o : Nat} {x : ActD} {fp : List Nat} (h : At w b o x fp) : ∃ f1, At w b (o + 1) x.deed f1 ∧ ∀ c ∈ f1, c ∈ fp := by
  obtain ⟨cs, hr, hc⟩ := h
  obtain ⟨v1, v2, f1, f2, rfl, hok, h1, h2, hfp⟩ := hc
  refine ⟨f1, ⟨[I x.deed.kind, I x.deed.run, I x.deed.plan.prio, I x.deed.plan.most, I x.deed.plan.wait, I x.deed.plan.tasks, v1, I x.deed.task, I x.deed.try_, I x.deed.worker, I x.deed.draw], fun j v hj => ?_, ⟨v1, f1, rfl, hok.2.1, h1, rfl⟩⟩, fun c hc => by rw [hfp]; first | (simp [hc]; done) | grind⟩
  have := hr (1 + j) v (by rcases j with _ | _ | _ | _ | _ | _ | _ | _ | _ | _ | _ | j <;> first | exact hj | simp at hj)
  rw [← this, Nat.add_assoc]
theorem At.Act_n {w : World} {b o : Nat} {x : ActD} {fp : List Nat} (h : At w b o x fp) : ∃ f1, At w b (o + 12) x.n f1 ∧ ∀ c ∈ f1, c ∈ fp := by
  obtain ⟨cs, hr, hc⟩ := h
  obtain ⟨v1, v2, f1, f2, rfl, hok, h1, h2, hfp⟩ := hc
  refine ⟨[], ⟨[I x.n], fun j v hj => ?_, ⟨rfl, rfl, hok.2.2⟩⟩, by simp⟩
  have := hr (12 + j) v (by rcases j with _ | j <;> first | exact hj | simp at hj)
  rw [← this, Nat.add_assoc]
theorem At.Act_keep {w : World} {b o : Nat} {x : ActD} {fp : List Nat} (h : At w b o x fp) : ∃ f1, At w b (o + 13) x.keep f1 ∧ ∀ c ∈ f1, c ∈ fp := by
  obtain ⟨cs, hr, hc⟩ := h
  obtain ⟨v1, v2, f1, f2, rfl, hok, h1, h2, hfp⟩ := hc
  refine ⟨f2, ⟨[v2], fun j v hj => ?_, ⟨v2, rfl, h2⟩⟩, fun c hc => by rw [hfp]; first | (simp [hc]; done) | grind⟩
  have := hr (13 + j) v (by rcases j with _ | j <;> first | exact hj | simp at hj)
  rw [← this, Nat.add_assoc]
theorem At.Hand_run {w : World} {b o : Nat} {x : Hand} {fp : List Nat} (h : At w b o x fp) : ∃ f1, At w b (o + 0) x.run f1 ∧ ∀ c ∈ f1, c ∈ fp := by
  obtain ⟨cs, hr, hc⟩ := h
  obtain ⟨rfl, rfl, hok⟩ := hc
  refine ⟨[], ⟨[I x.run], fun j v hj => ?_, ⟨rfl, rfl, hok.1⟩⟩, by simp⟩
  have := hr (0 + j) v (by rcases j with _ | j <;> first | exact hj | simp at hj)
  rw [← this, Nat.add_assoc]
theorem At.Hand_task {w : World} {b o : Nat} {x : Hand} {fp : List Nat} (h : At w b o x fp) : ∃ f1, At w b (o + 1) x.task f1 ∧ ∀ c ∈ f1, c ∈ fp := by
  obtain ⟨cs, hr, hc⟩ := h
  obtain ⟨rfl, rfl, hok⟩ := hc
  refine ⟨[], ⟨[I x.task], fun j v hj => ?_, ⟨rfl, rfl, hok.2.1⟩⟩, by simp⟩
  have := hr (1 + j) v (by rcases j with _ | j <;> first | exact hj | simp at hj)
  rw [← this, Nat.add_assoc]
theorem At.Hand_try_ {w : World} {b o : Nat} {x : Hand} {fp : List Nat} (h : At w b o x fp) : ∃ f1, At w b (o + 2) x.try_ f1 ∧ ∀ c ∈ f1, c ∈ fp := by
  obtain ⟨cs, hr, hc⟩ := h
  obtain ⟨rfl, rfl, hok⟩ := hc
  refine ⟨[], ⟨[I x.try_], fun j v hj => ?_, ⟨rfl, rfl, hok.2.2.1⟩⟩, by simp⟩
  have := hr (2 + j) v (by rcases j with _ | j <;> first | exact hj | simp at hj)
  rw [← this, Nat.add_assoc]
theorem At.Hand_at_ {w : World} {b o : Nat} {x : Hand} {fp : List Nat} (h : At w b o x fp) : ∃ f1, At w b (o + 3) x.at_ f1 ∧ ∀ c ∈ f1, c ∈ fp := by
  obtain ⟨cs, hr, hc⟩ := h
  obtain ⟨rfl, rfl, hok⟩ := hc
  refine ⟨[], ⟨[I x.at_], fun j v hj => ?_, ⟨rfl, rfl, hok.2.2.2⟩⟩, by simp⟩
  have := hr (3 + j) v (by rcases j with _ | j <;> first | exact hj | simp at hj)
  rw [← this, Nat.add_assoc]
theorem At.Span_deed {w : World} {b o : Nat} {x : Span} {fp : List Nat} (h : At w b o x fp) : ∃ f1, At w b (o + 0) x.deed f1 ∧ ∀ c ∈ f1, c ∈ fp := by
  obtain ⟨cs, hr, hc⟩ := h
  obtain ⟨v1, f1, rfl, hok, h1, hfp⟩ := hc
  refine ⟨f1, ⟨[I x.deed.kind, I x.deed.run, I x.deed.plan.prio, I x.deed.plan.most, I x.deed.plan.wait, I x.deed.plan.tasks, v1, I x.deed.task, I x.deed.try_, I x.deed.worker, I x.deed.draw], fun j v hj => ?_, ⟨v1, f1, rfl, hok.1, h1, rfl⟩⟩, fun c hc => by rw [hfp]; first | (simp [hc]; done) | grind⟩
  have := hr (0 + j) v (by rcases j with _ | _ | _ | _ | _ | _ | _ | _ | _ | _ | _ | j <;> first | exact hj | simp at hj)
  rw [← this, Nat.add_assoc]
theorem At.Span_begin_ {w : World} {b o : Nat} {x : Span} {fp : List Nat} (h : At w b o x fp) : ∃ f1, At w b (o + 11) x.begin_ f1 ∧ ∀ c ∈ f1, c ∈ fp := by
  obtain ⟨cs, hr, hc⟩ := h
  obtain ⟨v1, f1, rfl, hok, h1, hfp⟩ := hc
  refine ⟨[], ⟨[I x.begin_], fun j v hj => ?_, ⟨rfl, rfl, hok.2.1⟩⟩, by simp⟩
  have := hr (11 + j) v (by rcases j with _ | j <;> first | exact hj | simp at hj)
  rw [← this, Nat.add_assoc]
theorem At.Span_end_ {w : World} {b o : Nat} {x : Span} {fp : List Nat} (h : At w b o x fp) : ∃ f1, At w b (o + 12) x.end_ f1 ∧ ∀ c ∈ f1, c ∈ fp := by
  obtain ⟨cs, hr, hc⟩ := h
  obtain ⟨v1, f1, rfl, hok, h1, hfp⟩ := hc
  refine ⟨[], ⟨[I x.end_], fun j v hj => ?_, ⟨rfl, rfl, hok.2.2.1⟩⟩, by simp⟩
  have := hr (12 + j) v (by rcases j with _ | j <;> first | exact hj | simp at hj)
  rw [← this, Nat.add_assoc]
theorem At.Span_reply {w : World} {b o : Nat} {x : Span} {fp : List Nat} (h : At w b o x fp) : ∃ f1, At w b (o + 13) x.reply f1 ∧ ∀ c ∈ f1, c ∈ fp := by
  obtain ⟨cs, hr, hc⟩ := h
  obtain ⟨v1, f1, rfl, hok, h1, hfp⟩ := hc
  refine ⟨[], ⟨[I x.reply.code, I x.reply.run, I x.reply.task, I x.reply.try_], fun j v hj => ?_, ⟨rfl, rfl, hok.2.2.2⟩⟩, by simp⟩
  have := hr (13 + j) v (by rcases j with _ | _ | _ | _ | j <;> first | exact hj | simp at hj)
  rw [← this, Nat.add_assoc]
theorem At.Crew_yard {w : World} {b o : Nat} {x : Crew} {fp : List Nat} (h : At w b o x fp) : ∃ f1, At w b (o + 0) x.yard f1 ∧ ∀ c ∈ f1, c ∈ fp := by
  obtain ⟨cs, hr, hc⟩ := h
  obtain ⟨v1, v2, v3, f1, f2, f3, rfl, hok, h1, h2, h3, hfp⟩ := hc
  refine ⟨f1 ++ (f2), ⟨[I x.yard.now, I x.yard.seq, v1, v2], fun j v hj => ?_, ⟨v1, v2, f1, f2, rfl, hok.1, h1, h2, rfl⟩⟩, fun c hc => by rw [hfp]; first | (simp [hc]; done) | grind⟩
  have := hr (0 + j) v (by rcases j with _ | _ | _ | _ | j <;> first | exact hj | simp at hj)
  rw [← this, Nat.add_assoc]
theorem At.Crew_holds {w : World} {b o : Nat} {x : Crew} {fp : List Nat} (h : At w b o x fp) : ∃ f1, At w b (o + 4) x.holds f1 ∧ ∀ c ∈ f1, c ∈ fp := by
  obtain ⟨cs, hr, hc⟩ := h
  obtain ⟨v1, v2, v3, f1, f2, f3, rfl, hok, h1, h2, h3, hfp⟩ := hc
  refine ⟨f3, ⟨[v3], fun j v hj => ?_, ⟨v3, rfl, h3⟩⟩, fun c hc => by rw [hfp]; first | (simp [hc]; done) | grind⟩
  have := hr (4 + j) v (by rcases j with _ | j <;> first | exact hj | simp at hj)
  rw [← this, Nat.add_assoc]
theorem At.Crew_turns {w : World} {b o : Nat} {x : Crew} {fp : List Nat} (h : At w b o x fp) : ∃ f1, At w b (o + 5) x.turns f1 ∧ ∀ c ∈ f1, c ∈ fp := by
  obtain ⟨cs, hr, hc⟩ := h
  obtain ⟨v1, v2, v3, f1, f2, f3, rfl, hok, h1, h2, h3, hfp⟩ := hc
  refine ⟨[], ⟨[I x.turns], fun j v hj => ?_, ⟨rfl, rfl, hok.2.1⟩⟩, by simp⟩
  have := hr (5 + j) v (by rcases j with _ | j <;> first | exact hj | simp at hj)
  rw [← this, Nat.add_assoc]
theorem At.Crew_did {w : World} {b o : Nat} {x : Crew} {fp : List Nat} (h : At w b o x fp) : ∃ f1, At w b (o + 6) x.did f1 ∧ ∀ c ∈ f1, c ∈ fp := by
  obtain ⟨cs, hr, hc⟩ := h
  obtain ⟨v1, v2, v3, f1, f2, f3, rfl, hok, h1, h2, h3, hfp⟩ := hc
  refine ⟨[], ⟨[I x.did], fun j v hj => ?_, ⟨rfl, rfl, hok.2.2⟩⟩, by simp⟩
  have := hr (6 + j) v (by rcases j with _ | j <;> first | exact hj | simp at hj)
  rw [← this, Nat.add_assoc]
theorem At.View_state {w : World} {b o : Nat} {x : View} {fp : List Nat} (h : At w b o x fp) : ∃ f1, At w b (o + 0) x.state f1 ∧ ∀ c ∈ f1, c ∈ fp := by
  obtain ⟨cs, hr, hc⟩ := h
  obtain ⟨rfl, rfl, hok⟩ := hc
  refine ⟨[], ⟨[I x.state], fun j v hj => ?_, ⟨rfl, rfl, hok.1⟩⟩, by simp⟩
  have := hr (0 + j) v (by rcases j with _ | j <;> first | exact hj | simp at hj)
  rw [← this, Nat.add_assoc]
theorem At.View_waits {w : World} {b o : Nat} {x : View} {fp : List Nat} (h : At w b o x fp) : ∃ f1, At w b (o + 1) x.waits f1 ∧ ∀ c ∈ f1, c ∈ fp := by
  obtain ⟨cs, hr, hc⟩ := h
  obtain ⟨rfl, rfl, hok⟩ := hc
  refine ⟨[], ⟨[I x.waits], fun j v hj => ?_, ⟨rfl, rfl, hok.2.1⟩⟩, by simp⟩
  have := hr (1 + j) v (by rcases j with _ | j <;> first | exact hj | simp at hj)
  rw [← this, Nat.add_assoc]
theorem At.View_ready {w : World} {b o : Nat} {x : View} {fp : List Nat} (h : At w b o x fp) : ∃ f1, At w b (o + 2) x.ready f1 ∧ ∀ c ∈ f1, c ∈ fp := by
  obtain ⟨cs, hr, hc⟩ := h
  obtain ⟨rfl, rfl, hok⟩ := hc
  refine ⟨[], ⟨[I x.ready], fun j v hj => ?_, ⟨rfl, rfl, hok.2.2.1⟩⟩, by simp⟩
  have := hr (2 + j) v (by rcases j with _ | j <;> first | exact hj | simp at hj)
  rw [← this, Nat.add_assoc]
theorem At.View_runs {w : World} {b o : Nat} {x : View} {fp : List Nat} (h : At w b o x fp) : ∃ f1, At w b (o + 3) x.runs f1 ∧ ∀ c ∈ f1, c ∈ fp := by
  obtain ⟨cs, hr, hc⟩ := h
  obtain ⟨rfl, rfl, hok⟩ := hc
  refine ⟨[], ⟨[I x.runs], fun j v hj => ?_, ⟨rfl, rfl, hok.2.2.2.1⟩⟩, by simp⟩
  have := hr (3 + j) v (by rcases j with _ | j <;> first | exact hj | simp at hj)
  rw [← this, Nat.add_assoc]
theorem At.View_done {w : World} {b o : Nat} {x : View} {fp : List Nat} (h : At w b o x fp) : ∃ f1, At w b (o + 4) x.done f1 ∧ ∀ c ∈ f1, c ∈ fp := by
  obtain ⟨cs, hr, hc⟩ := h
  obtain ⟨rfl, rfl, hok⟩ := hc
  refine ⟨[], ⟨[I x.done], fun j v hj => ?_, ⟨rfl, rfl, hok.2.2.2.2.1⟩⟩, by simp⟩
  have := hr (4 + j) v (by rcases j with _ | j <;> first | exact hj | simp at hj)
  rw [← this, Nat.add_assoc]
theorem At.View_failed {w : World} {b o : Nat} {x : View} {fp : List Nat} (h : At w b o x fp) : ∃ f1, At w b (o + 5) x.failed f1 ∧ ∀ c ∈ f1, c ∈ fp := by
  obtain ⟨cs, hr, hc⟩ := h
  obtain ⟨rfl, rfl, hok⟩ := hc
  refine ⟨[], ⟨[I x.failed], fun j v hj => ?_, ⟨rfl, rfl, hok.2.2.2.2.2.1⟩⟩, by simp⟩
  have := hr (5 + j) v (by rcases j with _ | j <;> first | exact hj | simp at hj)
  rw [← this, Nat.add_assoc]
theorem At.View_left {w : World} {b o : Nat} {x : View} {fp : List Nat} (h : At w b o x fp) : ∃ f1, At w b (o + 6) x.left f1 ∧ ∀ c ∈ f1, c ∈ fp := by
  obtain ⟨cs, hr, hc⟩ := h
  obtain ⟨rfl, rfl, hok⟩ := hc
  refine ⟨[], ⟨[I x.left], fun j v hj => ?_, ⟨rfl, rfl, hok.2.2.2.2.2.2⟩⟩, by simp⟩
  have := hr (6 + j) v (by rcases j with _ | j <;> first | exact hj | simp at hj)
  rw [← this, Nat.add_assoc]

/-! ### Structs of a call's own, opened and shut -/
theorem open_Plan {w0 W : World} {cs : List Value} {x : Plan} {fp : List Nat} {rs : List Res} (h : St w0 W (Res.own (.agg cs.toArray) x fp :: rs)) : ∃ (v1 : Value) (f1 : List Nat), cs = [I x.prio, I x.most, I x.wait, I x.tasks, v1] ∧ x.ok ∧ St w0 W (Res.own v1 x.edges f1 :: rs) := by
  have ho := h.get 0 rfl
  obtain ⟨v1, f1, rfl, hok, h1, rfl⟩ := own_C ho rfl
  have hw := ho.2
  have hn := h.nodup
  rw [List.flatMap_cons, List.nodup_append] at hn
  refine ⟨v1, fp, rfl, hok, St.trade (rs1 := [_]) (rs2 := [Res.own v1 x.edges fp]) h (by simpa [Res.own] using hn.1) (by simp [Res.own]) ?_⟩
  intro r hr
  simp only [List.mem_cons, List.not_mem_nil, or_false] at hr
  rcases hr with rfl
  · exact ⟨h1.v, fun b hb => hw b (by simp [hb])⟩
theorem shut_Plan {w0 W : World} {x : Plan} {v1 : Value} {f1 : List Nat} {rs : List Res} (h : St w0 W (Res.own v1 x.edges f1 :: rs)) (hok : x.ok) : St w0 W (Res.own (.agg #[I x.prio, I x.most, I x.wait, I x.tasks, v1]) x (f1) :: rs) := by
  have hn := h.sub (rs' := [Res.own v1 x.edges f1]) (by simp)
  refine St.trade (rs1 := [Res.own v1 x.edges f1]) (rs2 := [_]) h (by simpa [Res.own] using hn.nodup) (by simp [Res.own]) ?_
  intro r hr
  simp only [List.mem_singleton] at hr
  subst hr
  refine ⟨⟨[I x.prio, I x.most, I x.wait, I x.tasks, v1], rfl, v1, f1, rfl, hok, own_Sl (h.get 0 rfl), rfl⟩, ?_⟩
  intro b hb
  exact own_lt (h.get 0 rfl) b hb
theorem open_Run {w0 W : World} {cs : List Value} {x : Run} {fp : List Nat} {rs : List Res} (h : St w0 W (Res.own (.agg cs.toArray) x fp :: rs)) : ∃ (v1 v2 : Value) (f1 f2 : List Nat), cs = [I x.id, I x.plan.prio, I x.plan.most, I x.plan.wait, I x.plan.tasks, v1, I x.state, v2] ∧ x.ok ∧ St w0 W (Res.own v1 x.plan.edges f1 :: Res.own v2 x.tasks f2 :: rs) := by
  have ho := h.get 0 rfl
  obtain ⟨v1, v2, f1, f2, rfl, hok, h1, h2, rfl⟩ := own_C ho rfl
  have hw := ho.2
  have hn := h.nodup
  rw [List.flatMap_cons, List.nodup_append] at hn
  refine ⟨v1, v2, f1, f2, rfl, hok, St.trade (rs1 := [_]) (rs2 := [Res.own v1 x.plan.edges f1, Res.own v2 x.tasks f2]) h (by simpa [Res.own] using hn.1) (by simp [Res.own]) ?_⟩
  intro r hr
  simp only [List.mem_cons, List.not_mem_nil, or_false] at hr
  rcases hr with rfl | rfl
  · exact ⟨h1.v, fun b hb => hw b (by simp [hb])⟩
  · exact ⟨h2.v, fun b hb => hw b (by simp [hb])⟩
theorem shut_Run {w0 W : World} {x : Run} {v1 v2 : Value} {f1 f2 : List Nat} {rs : List Res} (h : St w0 W (Res.own v1 x.plan.edges f1 :: Res.own v2 x.tasks f2 :: rs)) (hok : x.ok) : St w0 W (Res.own (.agg #[I x.id, I x.plan.prio, I x.plan.most, I x.plan.wait, I x.plan.tasks, v1, I x.state, v2]) x (f1 ++ (f2)) :: rs) := by
  have hn := h.sub (rs' := [Res.own v1 x.plan.edges f1, Res.own v2 x.tasks f2]) (by simp)
  refine St.trade (rs1 := [Res.own v1 x.plan.edges f1, Res.own v2 x.tasks f2]) (rs2 := [_]) h (by simpa [Res.own] using hn.nodup) (by simp [Res.own]) ?_
  intro r hr
  simp only [List.mem_singleton] at hr
  subst hr
  refine ⟨⟨[I x.id, I x.plan.prio, I x.plan.most, I x.plan.wait, I x.plan.tasks, v1, I x.state, v2], rfl, v1, v2, f1, f2, rfl, hok, own_Sl (h.get 0 rfl), own_Sl (h.get 1 rfl), rfl⟩, ?_⟩
  intro b hb
  simp only [List.mem_append] at hb
  rcases hb with hb | hb
  · exact own_lt (h.get 0 rfl) b hb
  · exact own_lt (h.get 1 rfl) b hb
theorem open_Yard {w0 W : World} {cs : List Value} {x : Yard} {fp : List Nat} {rs : List Res} (h : St w0 W (Res.own (.agg cs.toArray) x fp :: rs)) : ∃ (v1 v2 : Value) (f1 f2 : List Nat), cs = [I x.now, I x.seq, v1, v2] ∧ x.ok ∧ St w0 W (Res.own v1 x.shelf f1 :: Res.own v2 x.runs f2 :: rs) := by
  have ho := h.get 0 rfl
  obtain ⟨v1, v2, f1, f2, rfl, hok, h1, h2, rfl⟩ := own_C ho rfl
  have hw := ho.2
  have hn := h.nodup
  rw [List.flatMap_cons, List.nodup_append] at hn
  refine ⟨v1, v2, f1, f2, rfl, hok, St.trade (rs1 := [_]) (rs2 := [Res.own v1 x.shelf f1, Res.own v2 x.runs f2]) h (by simpa [Res.own] using hn.1) (by simp [Res.own]) ?_⟩
  intro r hr
  simp only [List.mem_cons, List.not_mem_nil, or_false] at hr
  rcases hr with rfl | rfl
  · exact ⟨h1.v, fun b hb => hw b (by simp [hb])⟩
  · exact ⟨h2.v, fun b hb => hw b (by simp [hb])⟩
theorem shut_Yard {w0 W : World} {x : Yard} {v1 v2 : Value} {f1 f2 : List Nat} {rs : List Res} (h : St w0 W (Res.own v1 x.shelf f1 :: Res.own v2 x.runs f2 :: rs)) (hok : x.ok) : St w0 W (Res.own (.agg #[I x.now, I x.seq, v1, v2]) x (f1 ++ (f2)) :: rs) := by
  have hn := h.sub (rs' := [Res.own v1 x.shelf f1, Res.own v2 x.runs f2]) (by simp)
  refine St.trade (rs1 := [Res.own v1 x.shelf f1, Res.own v2 x.runs f2]) (rs2 := [_]) h (by simpa [Res.own] using hn.nodup) (by simp [Res.own]) ?_
  intro r hr
  simp only [List.mem_singleton] at hr
  subst hr
  refine ⟨⟨[I x.now, I x.seq, v1, v2], rfl, v1, v2, f1, f2, rfl, hok, own_Sl (h.get 0 rfl), own_Sl (h.get 1 rfl), rfl⟩, ?_⟩
  intro b hb
  simp only [List.mem_append] at hb
  rcases hb with hb | hb
  · exact own_lt (h.get 0 rfl) b hb
  · exact own_lt (h.get 1 rfl) b hb
theorem open_Deed {w0 W : World} {cs : List Value} {x : Deed} {fp : List Nat} {rs : List Res} (h : St w0 W (Res.own (.agg cs.toArray) x fp :: rs)) : ∃ (v1 : Value) (f1 : List Nat), cs = [I x.kind, I x.run, I x.plan.prio, I x.plan.most, I x.plan.wait, I x.plan.tasks, v1, I x.task, I x.try_, I x.worker, I x.draw] ∧ x.ok ∧ St w0 W (Res.own v1 x.plan.edges f1 :: rs) := by
  have ho := h.get 0 rfl
  obtain ⟨v1, f1, rfl, hok, h1, rfl⟩ := own_C ho rfl
  have hw := ho.2
  have hn := h.nodup
  rw [List.flatMap_cons, List.nodup_append] at hn
  refine ⟨v1, fp, rfl, hok, St.trade (rs1 := [_]) (rs2 := [Res.own v1 x.plan.edges fp]) h (by simpa [Res.own] using hn.1) (by simp [Res.own]) ?_⟩
  intro r hr
  simp only [List.mem_cons, List.not_mem_nil, or_false] at hr
  rcases hr with rfl
  · exact ⟨h1.v, fun b hb => hw b (by simp [hb])⟩
theorem shut_Deed {w0 W : World} {x : Deed} {v1 : Value} {f1 : List Nat} {rs : List Res} (h : St w0 W (Res.own v1 x.plan.edges f1 :: rs)) (hok : x.ok) : St w0 W (Res.own (.agg #[I x.kind, I x.run, I x.plan.prio, I x.plan.most, I x.plan.wait, I x.plan.tasks, v1, I x.task, I x.try_, I x.worker, I x.draw]) x (f1) :: rs) := by
  have hn := h.sub (rs' := [Res.own v1 x.plan.edges f1]) (by simp)
  refine St.trade (rs1 := [Res.own v1 x.plan.edges f1]) (rs2 := [_]) h (by simpa [Res.own] using hn.nodup) (by simp [Res.own]) ?_
  intro r hr
  simp only [List.mem_singleton] at hr
  subst hr
  refine ⟨⟨[I x.kind, I x.run, I x.plan.prio, I x.plan.most, I x.plan.wait, I x.plan.tasks, v1, I x.task, I x.try_, I x.worker, I x.draw], rfl, v1, f1, rfl, hok, own_Sl (h.get 0 rfl), rfl⟩, ?_⟩
  intro b hb
  exact own_lt (h.get 0 rfl) b hb
theorem open_Note {w0 W : World} {cs : List Value} {x : Note} {fp : List Nat} {rs : List Res} (h : St w0 W (Res.own (.agg cs.toArray) x fp :: rs)) : ∃ (v1 : Value) (f1 : List Nat), cs = [I x.seq, I x.deed.kind, I x.deed.run, I x.deed.plan.prio, I x.deed.plan.most, I x.deed.plan.wait, I x.deed.plan.tasks, v1, I x.deed.task, I x.deed.try_, I x.deed.worker, I x.deed.draw] ∧ x.ok ∧ St w0 W (Res.own v1 x.deed.plan.edges f1 :: rs) := by
  have ho := h.get 0 rfl
  obtain ⟨v1, f1, rfl, hok, h1, rfl⟩ := own_C ho rfl
  have hw := ho.2
  have hn := h.nodup
  rw [List.flatMap_cons, List.nodup_append] at hn
  refine ⟨v1, fp, rfl, hok, St.trade (rs1 := [_]) (rs2 := [Res.own v1 x.deed.plan.edges fp]) h (by simpa [Res.own] using hn.1) (by simp [Res.own]) ?_⟩
  intro r hr
  simp only [List.mem_cons, List.not_mem_nil, or_false] at hr
  rcases hr with rfl
  · exact ⟨h1.v, fun b hb => hw b (by simp [hb])⟩
theorem shut_Note {w0 W : World} {x : Note} {v1 : Value} {f1 : List Nat} {rs : List Res} (h : St w0 W (Res.own v1 x.deed.plan.edges f1 :: rs)) (hok : x.ok) : St w0 W (Res.own (.agg #[I x.seq, I x.deed.kind, I x.deed.run, I x.deed.plan.prio, I x.deed.plan.most, I x.deed.plan.wait, I x.deed.plan.tasks, v1, I x.deed.task, I x.deed.try_, I x.deed.worker, I x.deed.draw]) x (f1) :: rs) := by
  have hn := h.sub (rs' := [Res.own v1 x.deed.plan.edges f1]) (by simp)
  refine St.trade (rs1 := [Res.own v1 x.deed.plan.edges f1]) (rs2 := [_]) h (by simpa [Res.own] using hn.nodup) (by simp [Res.own]) ?_
  intro r hr
  simp only [List.mem_singleton] at hr
  subst hr
  refine ⟨⟨[I x.seq, I x.deed.kind, I x.deed.run, I x.deed.plan.prio, I x.deed.plan.most, I x.deed.plan.wait, I x.deed.plan.tasks, v1, I x.deed.task, I x.deed.try_, I x.deed.worker, I x.deed.draw], rfl, v1, f1, rfl, hok, own_Sl (h.get 0 rfl), rfl⟩, ?_⟩
  intro b hb
  exact own_lt (h.get 0 rfl) b hb
theorem open_Disk {w0 W : World} {cs : List Value} {x : Disk} {fp : List Nat} {rs : List Res} (h : St w0 W (Res.own (.agg cs.toArray) x fp :: rs)) : ∃ (v1 : Value) (f1 : List Nat), cs = [v1] ∧ x.ok ∧ St w0 W (Res.own v1 x.files f1 :: rs) := by
  have ho := h.get 0 rfl
  obtain ⟨v1, f1, rfl, hok, h1, rfl⟩ := own_C ho rfl
  have hw := ho.2
  have hn := h.nodup
  rw [List.flatMap_cons, List.nodup_append] at hn
  refine ⟨v1, fp, rfl, hok, St.trade (rs1 := [_]) (rs2 := [Res.own v1 x.files fp]) h (by simpa [Res.own] using hn.1) (by simp [Res.own]) ?_⟩
  intro r hr
  simp only [List.mem_cons, List.not_mem_nil, or_false] at hr
  rcases hr with rfl
  · exact ⟨h1.v, fun b hb => hw b (by simp [hb])⟩
theorem shut_Disk {w0 W : World} {x : Disk} {v1 : Value} {f1 : List Nat} {rs : List Res} (h : St w0 W (Res.own v1 x.files f1 :: rs)) (hok : x.ok) : St w0 W (Res.own (.agg #[v1]) x (f1) :: rs) := by
  have hn := h.sub (rs' := [Res.own v1 x.files f1]) (by simp)
  refine St.trade (rs1 := [Res.own v1 x.files f1]) (rs2 := [_]) h (by simpa [Res.own] using hn.nodup) (by simp [Res.own]) ?_
  intro r hr
  simp only [List.mem_singleton] at hr
  subst hr
  refine ⟨⟨[v1], rfl, v1, f1, rfl, hok, own_Sl (h.get 0 rfl), rfl⟩, ?_⟩
  intro b hb
  exact own_lt (h.get 0 rfl) b hb
theorem open_Engine {w0 W : World} {cs : List Value} {x : Engine} {fp : List Nat} {rs : List Res} (h : St w0 W (Res.own (.agg cs.toArray) x fp :: rs)) : ∃ (v1 v2 v3 v4 : Value) (f1 f2 f3 f4 : List Nat), cs = [I x.yard.now, I x.yard.seq, v1, v2, v3, I x.next, I x.calls, v4, I x.state, .bool x.broken] ∧ x.ok ∧ St w0 W (Res.own v1 x.yard.shelf f1 :: Res.own v2 x.yard.runs f2 :: Res.own v3 x.disk.files f3 :: Res.own v4 x.waits f4 :: rs) := by
  have ho := h.get 0 rfl
  obtain ⟨v1, v2, v3, v4, f1, f2, f3, f4, rfl, hok, h1, h2, h3, h4, rfl⟩ := own_C ho rfl
  have hw := ho.2
  have hn := h.nodup
  rw [List.flatMap_cons, List.nodup_append] at hn
  refine ⟨v1, v2, v3, v4, f1, f2, f3, f4, rfl, hok, St.trade (rs1 := [_]) (rs2 := [Res.own v1 x.yard.shelf f1, Res.own v2 x.yard.runs f2, Res.own v3 x.disk.files f3, Res.own v4 x.waits f4]) h (by simpa [Res.own] using hn.1) (by simp [Res.own]) ?_⟩
  intro r hr
  simp only [List.mem_cons, List.not_mem_nil, or_false] at hr
  rcases hr with rfl | rfl | rfl | rfl
  · exact ⟨h1.v, fun b hb => hw b (by simp [hb])⟩
  · exact ⟨h2.v, fun b hb => hw b (by simp [hb])⟩
  · exact ⟨h3.v, fun b hb => hw b (by simp [hb])⟩
  · exact ⟨h4.v, fun b hb => hw b (by simp [hb])⟩
theorem shut_Engine {w0 W : World} {x : Engine} {v1 v2 v3 v4 : Value} {f1 f2 f3 f4 : List Nat} {rs : List Res} (h : St w0 W (Res.own v1 x.yard.shelf f1 :: Res.own v2 x.yard.runs f2 :: Res.own v3 x.disk.files f3 :: Res.own v4 x.waits f4 :: rs)) (hok : x.ok) : St w0 W (Res.own (.agg #[I x.yard.now, I x.yard.seq, v1, v2, v3, I x.next, I x.calls, v4, I x.state, .bool x.broken]) x (f1 ++ (f2 ++ (f3 ++ (f4)))) :: rs) := by
  have hn := h.sub (rs' := [Res.own v1 x.yard.shelf f1, Res.own v2 x.yard.runs f2, Res.own v3 x.disk.files f3, Res.own v4 x.waits f4]) (by simp)
  refine St.trade (rs1 := [Res.own v1 x.yard.shelf f1, Res.own v2 x.yard.runs f2, Res.own v3 x.disk.files f3, Res.own v4 x.waits f4]) (rs2 := [_]) h (by simpa [Res.own] using hn.nodup) (by simp [Res.own]) ?_
  intro r hr
  simp only [List.mem_singleton] at hr
  subst hr
  refine ⟨⟨[I x.yard.now, I x.yard.seq, v1, v2, v3, I x.next, I x.calls, v4, I x.state, .bool x.broken], rfl, v1, v2, v3, v4, f1, f2, f3, f4, rfl, hok, own_Sl (h.get 0 rfl), own_Sl (h.get 1 rfl), own_Sl (h.get 2 rfl), own_Sl (h.get 3 rfl), rfl⟩, ?_⟩
  intro b hb
  simp only [List.mem_append] at hb
  rcases hb with hb | hb | hb | hb
  · exact own_lt (h.get 0 rfl) b hb
  · exact own_lt (h.get 1 rfl) b hb
  · exact own_lt (h.get 2 rfl) b hb
  · exact own_lt (h.get 3 rfl) b hb
theorem open_World {w0 W : World} {cs : List Value} {x : WorldD} {fp : List Nat} {rs : List Res} (h : St w0 W (Res.own (.agg cs.toArray) x fp :: rs)) : ∃ (v1 v2 v3 v4 v5 v6 : Value) (f1 f2 f3 f4 f5 f6 : List Nat), cs = [I x.engine.yard.now, I x.engine.yard.seq, v1, v2, v3, I x.engine.next, I x.engine.calls, v4, I x.engine.state, .bool x.engine.broken, v5, v6, I x.told, I x.fell] ∧ x.ok ∧ St w0 W (Res.own v1 x.engine.yard.shelf f1 :: Res.own v2 x.engine.yard.runs f2 :: Res.own v3 x.engine.disk.files f3 :: Res.own v4 x.engine.waits f4 :: Res.own v5 x.deeds f5 :: Res.own v6 x.replies f6 :: rs) := by
  have ho := h.get 0 rfl
  obtain ⟨v1, v2, v3, v4, v5, v6, f1, f2, f3, f4, f5, f6, rfl, hok, h1, h2, h3, h4, h5, h6, rfl⟩ := own_C ho rfl
  have hw := ho.2
  have hn := h.nodup
  rw [List.flatMap_cons, List.nodup_append] at hn
  refine ⟨v1, v2, v3, v4, v5, v6, f1, f2, f3, f4, f5, f6, rfl, hok, St.trade (rs1 := [_]) (rs2 := [Res.own v1 x.engine.yard.shelf f1, Res.own v2 x.engine.yard.runs f2, Res.own v3 x.engine.disk.files f3, Res.own v4 x.engine.waits f4, Res.own v5 x.deeds f5, Res.own v6 x.replies f6]) h (by simpa [Res.own] using hn.1) (by simp [Res.own]) ?_⟩
  intro r hr
  simp only [List.mem_cons, List.not_mem_nil, or_false] at hr
  rcases hr with rfl | rfl | rfl | rfl | rfl | rfl
  · exact ⟨h1.v, fun b hb => hw b (by simp [hb])⟩
  · exact ⟨h2.v, fun b hb => hw b (by simp [hb])⟩
  · exact ⟨h3.v, fun b hb => hw b (by simp [hb])⟩
  · exact ⟨h4.v, fun b hb => hw b (by simp [hb])⟩
  · exact ⟨h5.v, fun b hb => hw b (by simp [hb])⟩
  · exact ⟨h6.v, fun b hb => hw b (by simp [hb])⟩
theorem shut_World {w0 W : World} {x : WorldD} {v1 v2 v3 v4 v5 v6 : Value} {f1 f2 f3 f4 f5 f6 : List Nat} {rs : List Res} (h : St w0 W (Res.own v1 x.engine.yard.shelf f1 :: Res.own v2 x.engine.yard.runs f2 :: Res.own v3 x.engine.disk.files f3 :: Res.own v4 x.engine.waits f4 :: Res.own v5 x.deeds f5 :: Res.own v6 x.replies f6 :: rs)) (hok : x.ok) : St w0 W (Res.own (.agg #[I x.engine.yard.now, I x.engine.yard.seq, v1, v2, v3, I x.engine.next, I x.engine.calls, v4, I x.engine.state, .bool x.engine.broken, v5, v6, I x.told, I x.fell]) x (f1 ++ (f2 ++ (f3 ++ (f4 ++ (f5 ++ (f6)))))) :: rs) := by
  have hn := h.sub (rs' := [Res.own v1 x.engine.yard.shelf f1, Res.own v2 x.engine.yard.runs f2, Res.own v3 x.engine.disk.files f3, Res.own v4 x.engine.waits f4, Res.own v5 x.deeds f5, Res.own v6 x.replies f6]) (by simp)
  refine St.trade (rs1 := [Res.own v1 x.engine.yard.shelf f1, Res.own v2 x.engine.yard.runs f2, Res.own v3 x.engine.disk.files f3, Res.own v4 x.engine.waits f4, Res.own v5 x.deeds f5, Res.own v6 x.replies f6]) (rs2 := [_]) h (by simpa [Res.own] using hn.nodup) (by simp [Res.own]) ?_
  intro r hr
  simp only [List.mem_singleton] at hr
  subst hr
  refine ⟨⟨[I x.engine.yard.now, I x.engine.yard.seq, v1, v2, v3, I x.engine.next, I x.engine.calls, v4, I x.engine.state, .bool x.engine.broken, v5, v6, I x.told, I x.fell], rfl, v1, v2, v3, v4, v5, v6, f1, f2, f3, f4, f5, f6, rfl, hok, own_Sl (h.get 0 rfl), own_Sl (h.get 1 rfl), own_Sl (h.get 2 rfl), own_Sl (h.get 3 rfl), own_Sl (h.get 4 rfl), own_Sl (h.get 5 rfl), rfl⟩, ?_⟩
  intro b hb
  simp only [List.mem_append] at hb
  rcases hb with hb | hb | hb | hb | hb | hb
  · exact own_lt (h.get 0 rfl) b hb
  · exact own_lt (h.get 1 rfl) b hb
  · exact own_lt (h.get 2 rfl) b hb
  · exact own_lt (h.get 3 rfl) b hb
  · exact own_lt (h.get 4 rfl) b hb
  · exact own_lt (h.get 5 rfl) b hb
theorem open_Act {w0 W : World} {cs : List Value} {x : ActD} {fp : List Nat} {rs : List Res} (h : St w0 W (Res.own (.agg cs.toArray) x fp :: rs)) : ∃ (v1 v2 : Value) (f1 f2 : List Nat), cs = [I x.kind, I x.deed.kind, I x.deed.run, I x.deed.plan.prio, I x.deed.plan.most, I x.deed.plan.wait, I x.deed.plan.tasks, v1, I x.deed.task, I x.deed.try_, I x.deed.worker, I x.deed.draw, I x.n, v2] ∧ x.ok ∧ St w0 W (Res.own v1 x.deed.plan.edges f1 :: Res.own v2 x.keep f2 :: rs) := by
  have ho := h.get 0 rfl
  obtain ⟨v1, v2, f1, f2, rfl, hok, h1, h2, rfl⟩ := own_C ho rfl
  have hw := ho.2
  have hn := h.nodup
  rw [List.flatMap_cons, List.nodup_append] at hn
  refine ⟨v1, v2, f1, f2, rfl, hok, St.trade (rs1 := [_]) (rs2 := [Res.own v1 x.deed.plan.edges f1, Res.own v2 x.keep f2]) h (by simpa [Res.own] using hn.1) (by simp [Res.own]) ?_⟩
  intro r hr
  simp only [List.mem_cons, List.not_mem_nil, or_false] at hr
  rcases hr with rfl | rfl
  · exact ⟨h1.v, fun b hb => hw b (by simp [hb])⟩
  · exact ⟨h2.v, fun b hb => hw b (by simp [hb])⟩
theorem shut_Act {w0 W : World} {x : ActD} {v1 v2 : Value} {f1 f2 : List Nat} {rs : List Res} (h : St w0 W (Res.own v1 x.deed.plan.edges f1 :: Res.own v2 x.keep f2 :: rs)) (hok : x.ok) : St w0 W (Res.own (.agg #[I x.kind, I x.deed.kind, I x.deed.run, I x.deed.plan.prio, I x.deed.plan.most, I x.deed.plan.wait, I x.deed.plan.tasks, v1, I x.deed.task, I x.deed.try_, I x.deed.worker, I x.deed.draw, I x.n, v2]) x (f1 ++ (f2)) :: rs) := by
  have hn := h.sub (rs' := [Res.own v1 x.deed.plan.edges f1, Res.own v2 x.keep f2]) (by simp)
  refine St.trade (rs1 := [Res.own v1 x.deed.plan.edges f1, Res.own v2 x.keep f2]) (rs2 := [_]) h (by simpa [Res.own] using hn.nodup) (by simp [Res.own]) ?_
  intro r hr
  simp only [List.mem_singleton] at hr
  subst hr
  refine ⟨⟨[I x.kind, I x.deed.kind, I x.deed.run, I x.deed.plan.prio, I x.deed.plan.most, I x.deed.plan.wait, I x.deed.plan.tasks, v1, I x.deed.task, I x.deed.try_, I x.deed.worker, I x.deed.draw, I x.n, v2], rfl, v1, v2, f1, f2, rfl, hok, own_Sl (h.get 0 rfl), own_Sl (h.get 1 rfl), rfl⟩, ?_⟩
  intro b hb
  simp only [List.mem_append] at hb
  rcases hb with hb | hb
  · exact own_lt (h.get 0 rfl) b hb
  · exact own_lt (h.get 1 rfl) b hb
theorem open_Span {w0 W : World} {cs : List Value} {x : Span} {fp : List Nat} {rs : List Res} (h : St w0 W (Res.own (.agg cs.toArray) x fp :: rs)) : ∃ (v1 : Value) (f1 : List Nat), cs = [I x.deed.kind, I x.deed.run, I x.deed.plan.prio, I x.deed.plan.most, I x.deed.plan.wait, I x.deed.plan.tasks, v1, I x.deed.task, I x.deed.try_, I x.deed.worker, I x.deed.draw, I x.begin_, I x.end_, I x.reply.code, I x.reply.run, I x.reply.task, I x.reply.try_] ∧ x.ok ∧ St w0 W (Res.own v1 x.deed.plan.edges f1 :: rs) := by
  have ho := h.get 0 rfl
  obtain ⟨v1, f1, rfl, hok, h1, rfl⟩ := own_C ho rfl
  have hw := ho.2
  have hn := h.nodup
  rw [List.flatMap_cons, List.nodup_append] at hn
  refine ⟨v1, fp, rfl, hok, St.trade (rs1 := [_]) (rs2 := [Res.own v1 x.deed.plan.edges fp]) h (by simpa [Res.own] using hn.1) (by simp [Res.own]) ?_⟩
  intro r hr
  simp only [List.mem_cons, List.not_mem_nil, or_false] at hr
  rcases hr with rfl
  · exact ⟨h1.v, fun b hb => hw b (by simp [hb])⟩
theorem shut_Span {w0 W : World} {x : Span} {v1 : Value} {f1 : List Nat} {rs : List Res} (h : St w0 W (Res.own v1 x.deed.plan.edges f1 :: rs)) (hok : x.ok) : St w0 W (Res.own (.agg #[I x.deed.kind, I x.deed.run, I x.deed.plan.prio, I x.deed.plan.most, I x.deed.plan.wait, I x.deed.plan.tasks, v1, I x.deed.task, I x.deed.try_, I x.deed.worker, I x.deed.draw, I x.begin_, I x.end_, I x.reply.code, I x.reply.run, I x.reply.task, I x.reply.try_]) x (f1) :: rs) := by
  have hn := h.sub (rs' := [Res.own v1 x.deed.plan.edges f1]) (by simp)
  refine St.trade (rs1 := [Res.own v1 x.deed.plan.edges f1]) (rs2 := [_]) h (by simpa [Res.own] using hn.nodup) (by simp [Res.own]) ?_
  intro r hr
  simp only [List.mem_singleton] at hr
  subst hr
  refine ⟨⟨[I x.deed.kind, I x.deed.run, I x.deed.plan.prio, I x.deed.plan.most, I x.deed.plan.wait, I x.deed.plan.tasks, v1, I x.deed.task, I x.deed.try_, I x.deed.worker, I x.deed.draw, I x.begin_, I x.end_, I x.reply.code, I x.reply.run, I x.reply.task, I x.reply.try_], rfl, v1, f1, rfl, hok, own_Sl (h.get 0 rfl), rfl⟩, ?_⟩
  intro b hb
  exact own_lt (h.get 0 rfl) b hb
theorem open_Crew {w0 W : World} {cs : List Value} {x : Crew} {fp : List Nat} {rs : List Res} (h : St w0 W (Res.own (.agg cs.toArray) x fp :: rs)) : ∃ (v1 v2 v3 : Value) (f1 f2 f3 : List Nat), cs = [I x.yard.now, I x.yard.seq, v1, v2, v3, I x.turns, I x.did] ∧ x.ok ∧ St w0 W (Res.own v1 x.yard.shelf f1 :: Res.own v2 x.yard.runs f2 :: Res.own v3 x.holds f3 :: rs) := by
  have ho := h.get 0 rfl
  obtain ⟨v1, v2, v3, f1, f2, f3, rfl, hok, h1, h2, h3, rfl⟩ := own_C ho rfl
  have hw := ho.2
  have hn := h.nodup
  rw [List.flatMap_cons, List.nodup_append] at hn
  refine ⟨v1, v2, v3, f1, f2, f3, rfl, hok, St.trade (rs1 := [_]) (rs2 := [Res.own v1 x.yard.shelf f1, Res.own v2 x.yard.runs f2, Res.own v3 x.holds f3]) h (by simpa [Res.own] using hn.1) (by simp [Res.own]) ?_⟩
  intro r hr
  simp only [List.mem_cons, List.not_mem_nil, or_false] at hr
  rcases hr with rfl | rfl | rfl
  · exact ⟨h1.v, fun b hb => hw b (by simp [hb])⟩
  · exact ⟨h2.v, fun b hb => hw b (by simp [hb])⟩
  · exact ⟨h3.v, fun b hb => hw b (by simp [hb])⟩
theorem shut_Crew {w0 W : World} {x : Crew} {v1 v2 v3 : Value} {f1 f2 f3 : List Nat} {rs : List Res} (h : St w0 W (Res.own v1 x.yard.shelf f1 :: Res.own v2 x.yard.runs f2 :: Res.own v3 x.holds f3 :: rs)) (hok : x.ok) : St w0 W (Res.own (.agg #[I x.yard.now, I x.yard.seq, v1, v2, v3, I x.turns, I x.did]) x (f1 ++ (f2 ++ (f3))) :: rs) := by
  have hn := h.sub (rs' := [Res.own v1 x.yard.shelf f1, Res.own v2 x.yard.runs f2, Res.own v3 x.holds f3]) (by simp)
  refine St.trade (rs1 := [Res.own v1 x.yard.shelf f1, Res.own v2 x.yard.runs f2, Res.own v3 x.holds f3]) (rs2 := [_]) h (by simpa [Res.own] using hn.nodup) (by simp [Res.own]) ?_
  intro r hr
  simp only [List.mem_singleton] at hr
  subst hr
  refine ⟨⟨[I x.yard.now, I x.yard.seq, v1, v2, v3, I x.turns, I x.did], rfl, v1, v2, v3, f1, f2, f3, rfl, hok, own_Sl (h.get 0 rfl), own_Sl (h.get 1 rfl), own_Sl (h.get 2 rfl), rfl⟩, ?_⟩
  intro b hb
  simp only [List.mem_append] at hb
  rcases hb with hb | hb | hb
  · exact own_lt (h.get 0 rfl) b hb
  · exact own_lt (h.get 1 rfl) b hb
  · exact own_lt (h.get 2 rfl) b hb
end Go.Proofs.YtchnllpegfbleaaGreat
