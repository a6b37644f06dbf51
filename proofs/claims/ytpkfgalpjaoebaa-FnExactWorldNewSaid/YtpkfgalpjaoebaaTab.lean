/-
  Closed facts on the program's types: sizes, places of fields, elements of slices. (Printed by a program of this project's: wip/gentab.py.)
-/
import Derived.Test.YtpkfgalpjaoebaaSxOwn
import Derived.Test.YtpkfgalpjaoebaaTypes
namespace Go.Proofs.Ytpkfgalpjaoebaa
set_option linter.unusedSimpArgs false
set_option linter.unusedVariables false
set_option maxRecDepth 100000
open Go.RowKit

instance : Agg Edge := ⟨true⟩
instance : Agg Plan := ⟨true⟩
instance : Agg Entry := ⟨true⟩
instance : Agg Task := ⟨true⟩
instance : Agg Run := ⟨true⟩
instance : Agg Yard := ⟨true⟩
instance : Agg Reply := ⟨true⟩
instance : Agg Deed := ⟨true⟩
instance : Agg Note := ⟨true⟩
instance : Agg Wait := ⟨true⟩
instance : Agg File := ⟨true⟩
instance : Agg Disk := ⟨true⟩
instance : Agg Engine := ⟨true⟩
instance : Agg WorldD := ⟨true⟩
instance : Agg ActD := ⟨true⟩
instance : Agg Hand := ⟨true⟩
instance : Agg Span := ⟨true⟩
instance : Agg Crew := ⟨true⟩
instance : Agg View := ⟨true⟩
theorem mix : Try.prog.follows .mixedOrders = true := by kernel_rfl
theorem ld_int : TyOk Try.prog 3 Int := ⟨by kernel_rfl, fun _ => rfl, _, Try.underlying3, rfl⟩
theorem ld_bool : TyOk Try.prog 4 Bool := ⟨by kernel_rfl, fun _ => rfl, _, Try.underlying4, rfl⟩
theorem ld_string : TyOk Try.prog 9 ByteArray := ⟨by kernel_rfl, fun _ => rfl, _, Try.underlying9, rfl⟩
theorem ld_IntS : TyOk Try.prog 27 (List Int) := ⟨by kernel_rfl, fun _ => rfl, _, Try.underlying27, rfl⟩
theorem sl_IntS : SlOk Try.prog 27 3 Int := ⟨Try.underlying27, by kernel_rfl⟩
theorem ap_IntS : ApOk Try.prog 27 3 Int 8 := apOk Try.underlying27 (by kernel_rfl) (by decide)
theorem ld_Edge : TyOk Try.prog 142 Edge := ⟨by kernel_rfl, (fun h => by cases h), _, Try.underlying142, _, rfl⟩
theorem zz_Edge : ZeroOk Try.prog 142 [I 0, I 0] := by unfold ZeroOk; kernel_rfl
theorem fa_Edge_0 : FieldOk Try.prog 142 0 0 := fieldOk Try.underlying142 rfl rfl (by kernel_rfl)
theorem fa_Edge_1 : FieldOk Try.prog 142 1 1 := fieldOk Try.underlying142 rfl rfl (by kernel_rfl)
theorem ld_Plan : TyOk Try.prog 68 Plan := ⟨by kernel_rfl, (fun h => by cases h), _, Try.underlying68, _, rfl⟩
theorem zz_Plan : ZeroOk Try.prog 68 [I 0, I 0, I 0, I 0, .slice none 0 0] := by unfold ZeroOk; kernel_rfl
theorem fa_Plan_0 : FieldOk Try.prog 68 0 0 := fieldOk Try.underlying68 rfl rfl (by kernel_rfl)
theorem fa_Plan_1 : FieldOk Try.prog 68 1 1 := fieldOk Try.underlying68 rfl rfl (by kernel_rfl)
theorem fa_Plan_2 : FieldOk Try.prog 68 2 2 := fieldOk Try.underlying68 rfl rfl (by kernel_rfl)
theorem fa_Plan_3 : FieldOk Try.prog 68 3 3 := fieldOk Try.underlying68 rfl rfl (by kernel_rfl)
theorem fa_Plan_4 : FieldOk Try.prog 68 4 4 := fieldOk Try.underlying68 rfl rfl (by kernel_rfl)
theorem ld_Entry : TyOk Try.prog 133 Entry := ⟨by kernel_rfl, (fun h => by cases h), _, Try.underlying133, _, rfl⟩
theorem zz_Entry : ZeroOk Try.prog 133 [I 0, I 0, I 0, I 0] := by unfold ZeroOk; kernel_rfl
theorem fa_Entry_0 : FieldOk Try.prog 133 0 0 := fieldOk Try.underlying133 rfl rfl (by kernel_rfl)
theorem fa_Entry_1 : FieldOk Try.prog 133 1 1 := fieldOk Try.underlying133 rfl rfl (by kernel_rfl)
theorem fa_Entry_2 : FieldOk Try.prog 133 2 2 := fieldOk Try.underlying133 rfl rfl (by kernel_rfl)
theorem fa_Entry_3 : FieldOk Try.prog 133 3 3 := fieldOk Try.underlying133 rfl rfl (by kernel_rfl)
theorem ld_Task : TyOk Try.prog 102 Task := ⟨by kernel_rfl, (fun h => by cases h), _, Try.underlying102, _, rfl⟩
theorem zz_Task : ZeroOk Try.prog 102 [I 0, I 0, I 0, I 0] := by unfold ZeroOk; kernel_rfl
theorem fa_Task_0 : FieldOk Try.prog 102 0 0 := fieldOk Try.underlying102 rfl rfl (by kernel_rfl)
theorem fa_Task_1 : FieldOk Try.prog 102 1 1 := fieldOk Try.underlying102 rfl rfl (by kernel_rfl)
theorem fa_Task_2 : FieldOk Try.prog 102 2 2 := fieldOk Try.underlying102 rfl rfl (by kernel_rfl)
theorem fa_Task_3 : FieldOk Try.prog 102 3 3 := fieldOk Try.underlying102 rfl rfl (by kernel_rfl)
theorem ld_Run : TyOk Try.prog 71 Run := ⟨by kernel_rfl, (fun h => by cases h), _, Try.underlying71, _, rfl⟩
theorem zz_Run : ZeroOk Try.prog 71 [I 0, I 0, I 0, I 0, I 0, .slice none 0 0, I 0, .slice none 0 0] := by unfold ZeroOk; kernel_rfl
theorem fa_Run_0 : FieldOk Try.prog 71 0 0 := fieldOk Try.underlying71 rfl rfl (by kernel_rfl)
theorem fa_Run_1 : FieldOk Try.prog 71 1 1 := fieldOk Try.underlying71 rfl rfl (by kernel_rfl)
theorem fa_Run_2 : FieldOk Try.prog 71 2 6 := fieldOk Try.underlying71 rfl rfl (by kernel_rfl)
theorem fa_Run_3 : FieldOk Try.prog 71 3 7 := fieldOk Try.underlying71 rfl rfl (by kernel_rfl)
theorem ld_Yard : TyOk Try.prog 32 Yard := ⟨by kernel_rfl, (fun h => by cases h), _, Try.underlying32, _, rfl⟩
theorem zz_Yard : ZeroOk Try.prog 32 [I 0, I 0, .slice none 0 0, .slice none 0 0] := by unfold ZeroOk; kernel_rfl
theorem fa_Yard_0 : FieldOk Try.prog 32 0 0 := fieldOk Try.underlying32 rfl rfl (by kernel_rfl)
theorem fa_Yard_1 : FieldOk Try.prog 32 1 1 := fieldOk Try.underlying32 rfl rfl (by kernel_rfl)
theorem fa_Yard_2 : FieldOk Try.prog 32 2 2 := fieldOk Try.underlying32 rfl rfl (by kernel_rfl)
theorem fa_Yard_3 : FieldOk Try.prog 32 3 3 := fieldOk Try.underlying32 rfl rfl (by kernel_rfl)
theorem ld_Reply : TyOk Try.prog 114 Reply := ⟨by kernel_rfl, (fun h => by cases h), _, Try.underlying114, _, rfl⟩
theorem zz_Reply : ZeroOk Try.prog 114 [I 0, I 0, I 0, I 0] := by unfold ZeroOk; kernel_rfl
theorem fa_Reply_0 : FieldOk Try.prog 114 0 0 := fieldOk Try.underlying114 rfl rfl (by kernel_rfl)
theorem fa_Reply_1 : FieldOk Try.prog 114 1 1 := fieldOk Try.underlying114 rfl rfl (by kernel_rfl)
theorem fa_Reply_2 : FieldOk Try.prog 114 2 2 := fieldOk Try.underlying114 rfl rfl (by kernel_rfl)
theorem fa_Reply_3 : FieldOk Try.prog 114 3 3 := fieldOk Try.underlying114 rfl rfl (by kernel_rfl)
theorem ld_Deed : TyOk Try.prog 126 Deed := ⟨by kernel_rfl, (fun h => by cases h), _, Try.underlying126, _, rfl⟩
theorem zz_Deed : ZeroOk Try.prog 126 [I 0, I 0, I 0, I 0, I 0, I 0, .slice none 0 0, I 0, I 0, I 0, I 0] := by unfold ZeroOk; kernel_rfl
theorem fa_Deed_0 : FieldOk Try.prog 126 0 0 := fieldOk Try.underlying126 rfl rfl (by kernel_rfl)
theorem fa_Deed_1 : FieldOk Try.prog 126 1 1 := fieldOk Try.underlying126 rfl rfl (by kernel_rfl)
theorem fa_Deed_2 : FieldOk Try.prog 126 2 2 := fieldOk Try.underlying126 rfl rfl (by kernel_rfl)
theorem fa_Deed_3 : FieldOk Try.prog 126 3 7 := fieldOk Try.underlying126 rfl rfl (by kernel_rfl)
theorem fa_Deed_4 : FieldOk Try.prog 126 4 8 := fieldOk Try.underlying126 rfl rfl (by kernel_rfl)
theorem fa_Deed_5 : FieldOk Try.prog 126 5 9 := fieldOk Try.underlying126 rfl rfl (by kernel_rfl)
theorem fa_Deed_6 : FieldOk Try.prog 126 6 10 := fieldOk Try.underlying126 rfl rfl (by kernel_rfl)
theorem ld_Wait : TyOk Try.prog 116 Wait := ⟨by kernel_rfl, (fun h => by cases h), _, Try.underlying116, _, rfl⟩
theorem zz_Wait : ZeroOk Try.prog 116 [I 0, I 0, I 0, I 0, I 0] := by unfold ZeroOk; kernel_rfl
theorem fa_Wait_0 : FieldOk Try.prog 116 0 0 := fieldOk Try.underlying116 rfl rfl (by kernel_rfl)
theorem fa_Wait_1 : FieldOk Try.prog 116 1 1 := fieldOk Try.underlying116 rfl rfl (by kernel_rfl)
theorem ld_File : TyOk Try.prog 146 File := ⟨by kernel_rfl, (fun h => by cases h), _, Try.underlying146, _, rfl⟩
theorem zz_File : ZeroOk Try.prog 146 [.string ByteArray.empty, .string ByteArray.empty, I 0] := by unfold ZeroOk; kernel_rfl
theorem fa_File_0 : FieldOk Try.prog 146 0 0 := fieldOk Try.underlying146 rfl rfl (by kernel_rfl)
theorem fa_File_1 : FieldOk Try.prog 146 1 1 := fieldOk Try.underlying146 rfl rfl (by kernel_rfl)
theorem fa_File_2 : FieldOk Try.prog 146 2 2 := fieldOk Try.underlying146 rfl rfl (by kernel_rfl)
theorem ld_Disk : TyOk Try.prog 49 Disk := ⟨by kernel_rfl, (fun h => by cases h), _, Try.underlying49, _, rfl⟩
theorem zz_Disk : ZeroOk Try.prog 49 [.slice none 0 0] := by unfold ZeroOk; kernel_rfl
theorem fa_Disk_0 : FieldOk Try.prog 49 0 0 := fieldOk Try.underlying49 rfl rfl (by kernel_rfl)
theorem ld_Engine : TyOk Try.prog 52 Engine := ⟨by kernel_rfl, (fun h => by cases h), _, Try.underlying52, _, rfl⟩
theorem zz_Engine : ZeroOk Try.prog 52 [I 0, I 0, .slice none 0 0, .slice none 0 0, .slice none 0 0, I 0, I 0, .slice none 0 0, I 0, .bool false] := by unfold ZeroOk; kernel_rfl
theorem fa_Engine_0 : FieldOk Try.prog 52 0 0 := fieldOk Try.underlying52 rfl rfl (by kernel_rfl)
theorem fa_Engine_1 : FieldOk Try.prog 52 1 4 := fieldOk Try.underlying52 rfl rfl (by kernel_rfl)
theorem fa_Engine_2 : FieldOk Try.prog 52 2 5 := fieldOk Try.underlying52 rfl rfl (by kernel_rfl)
theorem fa_Engine_3 : FieldOk Try.prog 52 3 6 := fieldOk Try.underlying52 rfl rfl (by kernel_rfl)
theorem fa_Engine_4 : FieldOk Try.prog 52 4 7 := fieldOk Try.underlying52 rfl rfl (by kernel_rfl)
theorem fa_Engine_5 : FieldOk Try.prog 52 5 8 := fieldOk Try.underlying52 rfl rfl (by kernel_rfl)
theorem fa_Engine_6 : FieldOk Try.prog 52 6 9 := fieldOk Try.underlying52 rfl rfl (by kernel_rfl)
theorem ld_World : TyOk Try.prog 59 WorldD := ⟨by kernel_rfl, (fun h => by cases h), _, Try.underlying59, _, rfl⟩
theorem zz_World : ZeroOk Try.prog 59 [I 0, I 0, .slice none 0 0, .slice none 0 0, .slice none 0 0, I 0, I 0, .slice none 0 0, I 0, .bool false, .slice none 0 0, .slice none 0 0, I 0, I 0] := by unfold ZeroOk; kernel_rfl
theorem fa_World_0 : FieldOk Try.prog 59 0 0 := fieldOk Try.underlying59 rfl rfl (by kernel_rfl)
theorem fa_World_1 : FieldOk Try.prog 59 1 10 := fieldOk Try.underlying59 rfl rfl (by kernel_rfl)
theorem fa_World_2 : FieldOk Try.prog 59 2 11 := fieldOk Try.underlying59 rfl rfl (by kernel_rfl)
theorem fa_World_3 : FieldOk Try.prog 59 3 12 := fieldOk Try.underlying59 rfl rfl (by kernel_rfl)
theorem fa_World_4 : FieldOk Try.prog 59 4 13 := fieldOk Try.underlying59 rfl rfl (by kernel_rfl)
theorem ld_EdgeS : TyOk Try.prog 66 (List Edge) := ⟨by kernel_rfl, fun _ => rfl, _, Try.underlying66, rfl⟩
theorem sl_EdgeS : SlOk Try.prog 66 142 Edge := ⟨Try.underlying66, by kernel_rfl⟩
theorem ap_EdgeS : ApOk Try.prog 66 142 Edge 16 := apOk Try.underlying66 (by kernel_rfl) (by decide)
theorem ld_EntryS : TyOk Try.prog 103 (List Entry) := ⟨by kernel_rfl, fun _ => rfl, _, Try.underlying103, rfl⟩
theorem sl_EntryS : SlOk Try.prog 103 133 Entry := ⟨Try.underlying103, by kernel_rfl⟩
theorem ap_EntryS : ApOk Try.prog 103 133 Entry 32 := apOk Try.underlying103 (by kernel_rfl) (by decide)
theorem ld_TaskS : TyOk Try.prog 69 (List Task) := ⟨by kernel_rfl, fun _ => rfl, _, Try.underlying69, rfl⟩
theorem sl_TaskS : SlOk Try.prog 69 102 Task := ⟨Try.underlying69, by kernel_rfl⟩
theorem ap_TaskS : ApOk Try.prog 69 102 Task 32 := apOk Try.underlying69 (by kernel_rfl) (by decide)
theorem ld_RunS : TyOk Try.prog 30 (List Run) := ⟨by kernel_rfl, fun _ => rfl, _, Try.underlying30, rfl⟩
theorem sl_RunS : SlOk Try.prog 30 71 Run := ⟨Try.underlying30, by kernel_rfl⟩
theorem ap_RunS : ApOk Try.prog 30 71 Run 96 := apOk Try.underlying30 (by kernel_rfl) (by decide)
theorem ld_EntrySS : TyOk Try.prog 29 (List (List Entry)) := ⟨by kernel_rfl, fun _ => rfl, _, Try.underlying29, rfl⟩
theorem sl_EntrySS : SlOk Try.prog 29 103 (List Entry) := ⟨Try.underlying29, by kernel_rfl⟩
theorem ap_EntrySS : ApOk Try.prog 29 103 (List Entry) 24 := apOk Try.underlying29 (by kernel_rfl) (by decide)
theorem ld_ReplyS : TyOk Try.prog 57 (List Reply) := ⟨by kernel_rfl, fun _ => rfl, _, Try.underlying57, rfl⟩
theorem sl_ReplyS : SlOk Try.prog 57 114 Reply := ⟨Try.underlying57, by kernel_rfl⟩
theorem ap_ReplyS : ApOk Try.prog 57 114 Reply 32 := apOk Try.underlying57 (by kernel_rfl) (by decide)
theorem ld_DeedS : TyOk Try.prog 56 (List Deed) := ⟨by kernel_rfl, fun _ => rfl, _, Try.underlying56, rfl⟩
theorem sl_DeedS : SlOk Try.prog 56 126 Deed := ⟨Try.underlying56, by kernel_rfl⟩
theorem ap_DeedS : ApOk Try.prog 56 126 Deed 104 := apOk Try.underlying56 (by kernel_rfl) (by decide)
theorem ld_WaitS : TyOk Try.prog 50 (List Wait) := ⟨by kernel_rfl, fun _ => rfl, _, Try.underlying50, rfl⟩
theorem sl_WaitS : SlOk Try.prog 50 116 Wait := ⟨Try.underlying50, by kernel_rfl⟩
theorem ap_WaitS : ApOk Try.prog 50 116 Wait 40 := apOk Try.underlying50 (by kernel_rfl) (by decide)
theorem ld_FileS : TyOk Try.prog 47 (List File) := ⟨by kernel_rfl, fun _ => rfl, _, Try.underlying47, rfl⟩
theorem sl_FileS : SlOk Try.prog 47 146 File := ⟨Try.underlying47, by kernel_rfl⟩
theorem ap_FileS : ApOk Try.prog 47 146 File 40 := apOk Try.underlying47 (by kernel_rfl) (by decide)
theorem ld_EdgeL : TyOk Try.prog 159 Edge := ⟨by kernel_rfl, (fun h => by cases h), _, Try.underlying159, _, rfl⟩
theorem zz_EdgeL : ZeroOk Try.prog 159 [I 0, I 0] := by unfold ZeroOk; kernel_rfl
theorem fa_EdgeL_0 : FieldOk Try.prog 159 0 0 := fieldOk Try.underlying159 rfl rfl (by kernel_rfl)
theorem fa_EdgeL_1 : FieldOk Try.prog 159 1 1 := fieldOk Try.underlying159 rfl rfl (by kernel_rfl)
theorem ld_PlanL : TyOk Try.prog 97 Plan := ⟨by kernel_rfl, (fun h => by cases h), _, Try.underlying97, _, rfl⟩
theorem zz_PlanL : ZeroOk Try.prog 97 [I 0, I 0, I 0, I 0, .slice none 0 0] := by unfold ZeroOk; kernel_rfl
theorem fa_PlanL_0 : FieldOk Try.prog 97 0 0 := fieldOk Try.underlying97 rfl rfl (by kernel_rfl)
theorem fa_PlanL_1 : FieldOk Try.prog 97 1 1 := fieldOk Try.underlying97 rfl rfl (by kernel_rfl)
theorem fa_PlanL_2 : FieldOk Try.prog 97 2 2 := fieldOk Try.underlying97 rfl rfl (by kernel_rfl)
theorem fa_PlanL_3 : FieldOk Try.prog 97 3 3 := fieldOk Try.underlying97 rfl rfl (by kernel_rfl)
theorem fa_PlanL_4 : FieldOk Try.prog 97 4 4 := fieldOk Try.underlying97 rfl rfl (by kernel_rfl)
theorem ld_EntryL : TyOk Try.prog 135 Entry := ⟨by kernel_rfl, (fun h => by cases h), _, Try.underlying135, _, rfl⟩
theorem zz_EntryL : ZeroOk Try.prog 135 [I 0, I 0, I 0, I 0] := by unfold ZeroOk; kernel_rfl
theorem fa_EntryL_0 : FieldOk Try.prog 135 0 0 := fieldOk Try.underlying135 rfl rfl (by kernel_rfl)
theorem fa_EntryL_1 : FieldOk Try.prog 135 1 1 := fieldOk Try.underlying135 rfl rfl (by kernel_rfl)
theorem fa_EntryL_2 : FieldOk Try.prog 135 2 2 := fieldOk Try.underlying135 rfl rfl (by kernel_rfl)
theorem fa_EntryL_3 : FieldOk Try.prog 135 3 3 := fieldOk Try.underlying135 rfl rfl (by kernel_rfl)
theorem ld_TaskL : TyOk Try.prog 154 Task := ⟨by kernel_rfl, (fun h => by cases h), _, Try.underlying154, _, rfl⟩
theorem zz_TaskL : ZeroOk Try.prog 154 [I 0, I 0, I 0, I 0] := by unfold ZeroOk; kernel_rfl
theorem fa_TaskL_0 : FieldOk Try.prog 154 0 0 := fieldOk Try.underlying154 rfl rfl (by kernel_rfl)
theorem fa_TaskL_1 : FieldOk Try.prog 154 1 1 := fieldOk Try.underlying154 rfl rfl (by kernel_rfl)
theorem fa_TaskL_2 : FieldOk Try.prog 154 2 2 := fieldOk Try.underlying154 rfl rfl (by kernel_rfl)
theorem fa_TaskL_3 : FieldOk Try.prog 154 3 3 := fieldOk Try.underlying154 rfl rfl (by kernel_rfl)
theorem ld_RunL : TyOk Try.prog 100 Run := ⟨by kernel_rfl, (fun h => by cases h), _, Try.underlying100, _, rfl⟩
theorem zz_RunL : ZeroOk Try.prog 100 [I 0, I 0, I 0, I 0, I 0, .slice none 0 0, I 0, .slice none 0 0] := by unfold ZeroOk; kernel_rfl
theorem fa_RunL_0 : FieldOk Try.prog 100 0 0 := fieldOk Try.underlying100 rfl rfl (by kernel_rfl)
theorem fa_RunL_1 : FieldOk Try.prog 100 1 1 := fieldOk Try.underlying100 rfl rfl (by kernel_rfl)
theorem fa_RunL_2 : FieldOk Try.prog 100 2 6 := fieldOk Try.underlying100 rfl rfl (by kernel_rfl)
theorem fa_RunL_3 : FieldOk Try.prog 100 3 7 := fieldOk Try.underlying100 rfl rfl (by kernel_rfl)
theorem ld_YardL : TyOk Try.prog 25 Yard := ⟨by kernel_rfl, (fun h => by cases h), _, Try.underlying25, _, rfl⟩
theorem zz_YardL : ZeroOk Try.prog 25 [I 0, I 0, .slice none 0 0, .slice none 0 0] := by unfold ZeroOk; kernel_rfl
theorem fa_YardL_0 : FieldOk Try.prog 25 0 0 := fieldOk Try.underlying25 rfl rfl (by kernel_rfl)
theorem fa_YardL_1 : FieldOk Try.prog 25 1 1 := fieldOk Try.underlying25 rfl rfl (by kernel_rfl)
theorem fa_YardL_2 : FieldOk Try.prog 25 2 2 := fieldOk Try.underlying25 rfl rfl (by kernel_rfl)
theorem fa_YardL_3 : FieldOk Try.prog 25 3 3 := fieldOk Try.underlying25 rfl rfl (by kernel_rfl)
theorem ld_ReplyL : TyOk Try.prog 118 Reply := ⟨by kernel_rfl, (fun h => by cases h), _, Try.underlying118, _, rfl⟩
theorem zz_ReplyL : ZeroOk Try.prog 118 [I 0, I 0, I 0, I 0] := by unfold ZeroOk; kernel_rfl
theorem fa_ReplyL_0 : FieldOk Try.prog 118 0 0 := fieldOk Try.underlying118 rfl rfl (by kernel_rfl)
theorem fa_ReplyL_1 : FieldOk Try.prog 118 1 1 := fieldOk Try.underlying118 rfl rfl (by kernel_rfl)
theorem fa_ReplyL_2 : FieldOk Try.prog 118 2 2 := fieldOk Try.underlying118 rfl rfl (by kernel_rfl)
theorem fa_ReplyL_3 : FieldOk Try.prog 118 3 3 := fieldOk Try.underlying118 rfl rfl (by kernel_rfl)
theorem ld_WaitL : TyOk Try.prog 120 Wait := ⟨by kernel_rfl, (fun h => by cases h), _, Try.underlying120, _, rfl⟩
theorem zz_WaitL : ZeroOk Try.prog 120 [I 0, I 0, I 0, I 0, I 0] := by unfold ZeroOk; kernel_rfl
theorem fa_WaitL_0 : FieldOk Try.prog 120 0 0 := fieldOk Try.underlying120 rfl rfl (by kernel_rfl)
theorem fa_WaitL_1 : FieldOk Try.prog 120 1 1 := fieldOk Try.underlying120 rfl rfl (by kernel_rfl)
theorem ld_FileL : TyOk Try.prog 145 File := ⟨by kernel_rfl, (fun h => by cases h), _, Try.underlying145, _, rfl⟩
theorem zz_FileL : ZeroOk Try.prog 145 [.string ByteArray.empty, .string ByteArray.empty, I 0] := by unfold ZeroOk; kernel_rfl
theorem fa_FileL_0 : FieldOk Try.prog 145 0 0 := fieldOk Try.underlying145 rfl rfl (by kernel_rfl)
theorem fa_FileL_1 : FieldOk Try.prog 145 1 1 := fieldOk Try.underlying145 rfl rfl (by kernel_rfl)
theorem fa_FileL_2 : FieldOk Try.prog 145 2 2 := fieldOk Try.underlying145 rfl rfl (by kernel_rfl)
theorem ld_DiskL : TyOk Try.prog 41 Disk := ⟨by kernel_rfl, (fun h => by cases h), _, Try.underlying41, _, rfl⟩
theorem zz_DiskL : ZeroOk Try.prog 41 [.slice none 0 0] := by unfold ZeroOk; kernel_rfl
theorem fa_DiskL_0 : FieldOk Try.prog 41 0 0 := fieldOk Try.underlying41 rfl rfl (by kernel_rfl)
theorem ld_EngineL : TyOk Try.prog 44 Engine := ⟨by kernel_rfl, (fun h => by cases h), _, Try.underlying44, _, rfl⟩
theorem zz_EngineL : ZeroOk Try.prog 44 [I 0, I 0, .slice none 0 0, .slice none 0 0, .slice none 0 0, I 0, I 0, .slice none 0 0, I 0, .bool false] := by unfold ZeroOk; kernel_rfl
theorem fa_EngineL_0 : FieldOk Try.prog 44 0 0 := fieldOk Try.underlying44 rfl rfl (by kernel_rfl)
theorem fa_EngineL_1 : FieldOk Try.prog 44 1 4 := fieldOk Try.underlying44 rfl rfl (by kernel_rfl)
theorem fa_EngineL_2 : FieldOk Try.prog 44 2 5 := fieldOk Try.underlying44 rfl rfl (by kernel_rfl)
theorem fa_EngineL_3 : FieldOk Try.prog 44 3 6 := fieldOk Try.underlying44 rfl rfl (by kernel_rfl)
theorem fa_EngineL_4 : FieldOk Try.prog 44 4 7 := fieldOk Try.underlying44 rfl rfl (by kernel_rfl)
theorem fa_EngineL_5 : FieldOk Try.prog 44 5 8 := fieldOk Try.underlying44 rfl rfl (by kernel_rfl)
theorem fa_EngineL_6 : FieldOk Try.prog 44 6 9 := fieldOk Try.underlying44 rfl rfl (by kernel_rfl)
theorem ld_EdgeSL : TyOk Try.prog 95 (List Edge) := ⟨by kernel_rfl, fun _ => rfl, _, Try.underlying95, rfl⟩
theorem sl_EdgeSL : SlOk Try.prog 95 159 Edge := ⟨Try.underlying95, by kernel_rfl⟩
theorem ap_EdgeSL : ApOk Try.prog 95 159 Edge 16 := apOk Try.underlying95 (by kernel_rfl) (by decide)
theorem ld_EntrySL : TyOk Try.prog 93 (List Entry) := ⟨by kernel_rfl, fun _ => rfl, _, Try.underlying93, rfl⟩
theorem sl_EntrySL : SlOk Try.prog 93 135 Entry := ⟨Try.underlying93, by kernel_rfl⟩
theorem ap_EntrySL : ApOk Try.prog 93 135 Entry 32 := apOk Try.underlying93 (by kernel_rfl) (by decide)
theorem ld_TaskSL : TyOk Try.prog 98 (List Task) := ⟨by kernel_rfl, fun _ => rfl, _, Try.underlying98, rfl⟩
theorem sl_TaskSL : SlOk Try.prog 98 154 Task := ⟨Try.underlying98, by kernel_rfl⟩
theorem ap_TaskSL : ApOk Try.prog 98 154 Task 32 := apOk Try.underlying98 (by kernel_rfl) (by decide)
theorem ld_RunSL : TyOk Try.prog 23 (List Run) := ⟨by kernel_rfl, fun _ => rfl, _, Try.underlying23, rfl⟩
theorem sl_RunSL : SlOk Try.prog 23 100 Run := ⟨Try.underlying23, by kernel_rfl⟩
theorem ap_RunSL : ApOk Try.prog 23 100 Run 96 := apOk Try.underlying23 (by kernel_rfl) (by decide)
theorem ld_EntrySSL : TyOk Try.prog 22 (List (List Entry)) := ⟨by kernel_rfl, fun _ => rfl, _, Try.underlying22, rfl⟩
theorem sl_EntrySSL : SlOk Try.prog 22 93 (List Entry) := ⟨Try.underlying22, by kernel_rfl⟩
theorem ap_EntrySSL : ApOk Try.prog 22 93 (List Entry) 24 := apOk Try.underlying22 (by kernel_rfl) (by decide)
theorem ld_WaitSL : TyOk Try.prog 42 (List Wait) := ⟨by kernel_rfl, fun _ => rfl, _, Try.underlying42, rfl⟩
theorem sl_WaitSL : SlOk Try.prog 42 120 Wait := ⟨Try.underlying42, by kernel_rfl⟩
theorem ap_WaitSL : ApOk Try.prog 42 120 Wait 40 := apOk Try.underlying42 (by kernel_rfl) (by decide)
theorem ld_FileSL : TyOk Try.prog 39 (List File) := ⟨by kernel_rfl, fun _ => rfl, _, Try.underlying39, rfl⟩
theorem sl_FileSL : SlOk Try.prog 39 145 File := ⟨Try.underlying39, by kernel_rfl⟩
theorem ap_FileSL : ApOk Try.prog 39 145 File 40 := apOk Try.underlying39 (by kernel_rfl) (by decide)

/-! ### Fields -/
theorem At.Edge_from_ {w : World} {b o : Nat} {x : Edge} {fp : List Nat} (h : At w b o x fp) : ∃ f1, At w b (o + 0) x.from_ f1 ∧ ∀ c ∈ f1, c ∈ fp := by
  obtain ⟨cs, hr, hc⟩ := h
  obtain ⟨rfl, rfl, hok⟩ := hc
  refine ⟨[], ⟨[I x.from_], fun j v hj => ?_, ⟨rfl, rfl, hok.1⟩⟩, by simp⟩
  have := hr (0 + j) v (by rcases j with _ | j <;> first | exact hj | simp at hj)
  rw [← this, Nat.add_assoc]
theorem At.Edge_to_ {w : World} {b o : Nat} {x : Edge} {fp : List Nat} (h : At w b o x fp) : ∃ f1, At w b (o + 1) x.to_ f1 ∧ ∀ c ∈ f1, c ∈ fp := by
  obtain ⟨cs, hr, hc⟩ := h
  obtain ⟨rfl, rfl, hok⟩ := hc
  refine ⟨[], ⟨[I x.to_], fun j v hj => ?_, ⟨rfl, rfl, hok.2⟩⟩, by simp⟩
  have := hr (1 + j) v (by rcases j with _ | j <;> first | exact hj | simp at hj)
  rw [← this, Nat.add_assoc]
theorem At.Plan_prio {w : World} {b o : Nat} {x : Plan} {fp : List Nat} (h : At w b o x fp) : ∃ f1, At w b (o + 0) x.prio f1 ∧ ∀ c ∈ f1, c ∈ fp := by
  obtain ⟨cs, hr, hc⟩ := h
  obtain ⟨v1, f1, rfl, hok, h1, hfp⟩ := hc
  refine ⟨[], ⟨[I x.prio], fun j v hj => ?_, ⟨rfl, rfl, hok.1⟩⟩, by simp⟩
  have := hr (0 + j) v (by rcases j with _ | j <;> first | exact hj | simp at hj)
  rw [← this, Nat.add_assoc]
theorem At.Plan_most {w : World} {b o : Nat} {x : Plan} {fp : List Nat} (h : At w b o x fp) : ∃ f1, At w b (o + 1) x.most f1 ∧ ∀ c ∈ f1, c ∈ fp := by
  obtain ⟨cs, hr, hc⟩ := h
  obtain ⟨v1, f1, rfl, hok, h1, hfp⟩ := hc
  refine ⟨[], ⟨[I x.most], fun j v hj => ?_, ⟨rfl, rfl, hok.2.1⟩⟩, by simp⟩
  have := hr (1 + j) v (by rcases j with _ | j <;> first | exact hj | simp at hj)
  rw [← this, Nat.add_assoc]
theorem At.Plan_wait {w : World} {b o : Nat} {x : Plan} {fp : List Nat} (h : At w b o x fp) : ∃ f1, At w b (o + 2) x.wait f1 ∧ ∀ c ∈ f1, c ∈ fp := by
  obtain ⟨cs, hr, hc⟩ := h
  obtain ⟨v1, f1, rfl, hok, h1, hfp⟩ := hc
  refine ⟨[], ⟨[I x.wait], fun j v hj => ?_, ⟨rfl, rfl, hok.2.2.1⟩⟩, by simp⟩
  have := hr (2 + j) v (by rcases j with _ | j <;> first | exact hj | simp at hj)
  rw [← this, Nat.add_assoc]
theorem At.Plan_tasks {w : World} {b o : Nat} {x : Plan} {fp : List Nat} (h : At w b o x fp) : ∃ f1, At w b (o + 3) x.tasks f1 ∧ ∀ c ∈ f1, c ∈ fp := by
  obtain ⟨cs, hr, hc⟩ := h
  obtain ⟨v1, f1, rfl, hok, h1, hfp⟩ := hc
  refine ⟨[], ⟨[I x.tasks], fun j v hj => ?_, ⟨rfl, rfl, hok.2.2.2⟩⟩, by simp⟩
  have := hr (3 + j) v (by rcases j with _ | j <;> first | exact hj | simp at hj)
  rw [← this, Nat.add_assoc]
theorem At.Plan_edges {w : World} {b o : Nat} {x : Plan} {fp : List Nat} (h : At w b o x fp) : ∃ f1, At w b (o + 4) x.edges f1 ∧ ∀ c ∈ f1, c ∈ fp := by
  obtain ⟨cs, hr, hc⟩ := h
  obtain ⟨v1, f1, rfl, hok, h1, hfp⟩ := hc
  refine ⟨f1, ⟨[v1], fun j v hj => ?_, ⟨v1, rfl, h1⟩⟩, fun c hc => by rw [hfp]; first | (simp [hc]; done) | grind⟩
  have := hr (4 + j) v (by rcases j with _ | j <;> first | exact hj | simp at hj)
  rw [← this, Nat.add_assoc]
theorem At.Entry_prio {w : World} {b o : Nat} {x : Entry} {fp : List Nat} (h : At w b o x fp) : ∃ f1, At w b (o + 0) x.prio f1 ∧ ∀ c ∈ f1, c ∈ fp := by
  obtain ⟨cs, hr, hc⟩ := h
  obtain ⟨rfl, rfl, hok⟩ := hc
  refine ⟨[], ⟨[I x.prio], fun j v hj => ?_, ⟨rfl, rfl, hok.1⟩⟩, by simp⟩
  have := hr (0 + j) v (by rcases j with _ | j <;> first | exact hj | simp at hj)
  rw [← this, Nat.add_assoc]
theorem At.Entry_seq {w : World} {b o : Nat} {x : Entry} {fp : List Nat} (h : At w b o x fp) : ∃ f1, At w b (o + 1) x.seq f1 ∧ ∀ c ∈ f1, c ∈ fp := by
  obtain ⟨cs, hr, hc⟩ := h
  obtain ⟨rfl, rfl, hok⟩ := hc
  refine ⟨[], ⟨[I x.seq], fun j v hj => ?_, ⟨rfl, rfl, hok.2.1⟩⟩, by simp⟩
  have := hr (1 + j) v (by rcases j with _ | j <;> first | exact hj | simp at hj)
  rw [← this, Nat.add_assoc]
theorem At.Entry_run {w : World} {b o : Nat} {x : Entry} {fp : List Nat} (h : At w b o x fp) : ∃ f1, At w b (o + 2) x.run f1 ∧ ∀ c ∈ f1, c ∈ fp := by
  obtain ⟨cs, hr, hc⟩ := h
  obtain ⟨rfl, rfl, hok⟩ := hc
  refine ⟨[], ⟨[I x.run], fun j v hj => ?_, ⟨rfl, rfl, hok.2.2.1⟩⟩, by simp⟩
  have := hr (2 + j) v (by rcases j with _ | j <;> first | exact hj | simp at hj)
  rw [← this, Nat.add_assoc]
theorem At.Entry_task {w : World} {b o : Nat} {x : Entry} {fp : List Nat} (h : At w b o x fp) : ∃ f1, At w b (o + 3) x.task f1 ∧ ∀ c ∈ f1, c ∈ fp := by
  obtain ⟨cs, hr, hc⟩ := h
  obtain ⟨rfl, rfl, hok⟩ := hc
  refine ⟨[], ⟨[I x.task], fun j v hj => ?_, ⟨rfl, rfl, hok.2.2.2⟩⟩, by simp⟩
  have := hr (3 + j) v (by rcases j with _ | j <;> first | exact hj | simp at hj)
  rw [← this, Nat.add_assoc]
theorem At.Task_state {w : World} {b o : Nat} {x : Task} {fp : List Nat} (h : At w b o x fp) : ∃ f1, At w b (o + 0) x.state f1 ∧ ∀ c ∈ f1, c ∈ fp := by
  obtain ⟨cs, hr, hc⟩ := h
  obtain ⟨rfl, rfl, hok⟩ := hc
  refine ⟨[], ⟨[I x.state], fun j v hj => ?_, ⟨rfl, rfl, hok.1⟩⟩, by simp⟩
  have := hr (0 + j) v (by rcases j with _ | j <;> first | exact hj | simp at hj)
  rw [← this, Nat.add_assoc]
theorem At.Task_need {w : World} {b o : Nat} {x : Task} {fp : List Nat} (h : At w b o x fp) : ∃ f1, At w b (o + 1) x.need f1 ∧ ∀ c ∈ f1, c ∈ fp := by
  obtain ⟨cs, hr, hc⟩ := h
  obtain ⟨rfl, rfl, hok⟩ := hc
  refine ⟨[], ⟨[I x.need], fun j v hj => ?_, ⟨rfl, rfl, hok.2.1⟩⟩, by simp⟩
  have := hr (1 + j) v (by rcases j with _ | j <;> first | exact hj | simp at hj)
  rw [← this, Nat.add_assoc]
theorem At.Task_try_ {w : World} {b o : Nat} {x : Task} {fp : List Nat} (h : At w b o x fp) : ∃ f1, At w b (o + 2) x.try_ f1 ∧ ∀ c ∈ f1, c ∈ fp := by
  obtain ⟨cs, hr, hc⟩ := h
  obtain ⟨rfl, rfl, hok⟩ := hc
  refine ⟨[], ⟨[I x.try_], fun j v hj => ?_, ⟨rfl, rfl, hok.2.2.1⟩⟩, by simp⟩
  have := hr (2 + j) v (by rcases j with _ | j <;> first | exact hj | simp at hj)
  rw [← this, Nat.add_assoc]
theorem At.Task_until_ {w : World} {b o : Nat} {x : Task} {fp : List Nat} (h : At w b o x fp) : ∃ f1, At w b (o + 3) x.until_ f1 ∧ ∀ c ∈ f1, c ∈ fp := by
  obtain ⟨cs, hr, hc⟩ := h
  obtain ⟨rfl, rfl, hok⟩ := hc
  refine ⟨[], ⟨[I x.until_], fun j v hj => ?_, ⟨rfl, rfl, hok.2.2.2⟩⟩, by simp⟩
  have := hr (3 + j) v (by rcases j with _ | j <;> first | exact hj | simp at hj)
  rw [← this, Nat.add_assoc]
theorem At.Run_id {w : World} {b o : Nat} {x : Run} {fp : List Nat} (h : At w b o x fp) : ∃ f1, At w b (o + 0) x.id f1 ∧ ∀ c ∈ f1, c ∈ fp := by
  obtain ⟨cs, hr, hc⟩ := h
  obtain ⟨v1, v2, f1, f2, rfl, hok, h1, h2, hfp⟩ := hc
  refine ⟨[], ⟨[I x.id], fun j v hj => ?_, ⟨rfl, rfl, hok.1⟩⟩, by simp⟩
  have := hr (0 + j) v (by rcases j with _ | j <;> first | exact hj | simp at hj)
  rw [← this, Nat.add_assoc]
theorem At.Run_plan {w : World} {b o : Nat} {x : Run} {fp : List Nat} (h : At w b o x fp) : ∃ f1, At w b (o + 1) x.plan f1 ∧ ∀ c ∈ f1, c ∈ fp := by
  obtain ⟨cs, hr, hc⟩ := h
  obtain ⟨v1, v2, f1, f2, rfl, hok, h1, h2, hfp⟩ := hc
  refine ⟨f1, ⟨[I x.plan.prio, I x.plan.most, I x.plan.wait, I x.plan.tasks, v1], fun j v hj => ?_, ⟨v1, f1, rfl, hok.2.1, h1, rfl⟩⟩, fun c hc => by rw [hfp]; first | (simp [hc]; done) | grind⟩
  have := hr (1 + j) v (by rcases j with _ | _ | _ | _ | _ | j <;> first | exact hj | simp at hj)
  rw [← this, Nat.add_assoc]
theorem At.Run_state {w : World} {b o : Nat} {x : Run} {fp : List Nat} (h : At w b o x fp) : ∃ f1, At w b (o + 6) x.state f1 ∧ ∀ c ∈ f1, c ∈ fp := by
  obtain ⟨cs, hr, hc⟩ := h
  obtain ⟨v1, v2, f1, f2, rfl, hok, h1, h2, hfp⟩ := hc
  refine ⟨[], ⟨[I x.state], fun j v hj => ?_, ⟨rfl, rfl, hok.2.2⟩⟩, by simp⟩
  have := hr (6 + j) v (by rcases j with _ | j <;> first | exact hj | simp at hj)
  rw [← this, Nat.add_assoc]
theorem At.Run_tasks {w : World} {b o : Nat} {x : Run} {fp : List Nat} (h : At w b o x fp) : ∃ f1, At w b (o + 7) x.tasks f1 ∧ ∀ c ∈ f1, c ∈ fp := by
  obtain ⟨cs, hr, hc⟩ := h
  obtain ⟨v1, v2, f1, f2, rfl, hok, h1, h2, hfp⟩ := hc
  refine ⟨f2, ⟨[v2], fun j v hj => ?_, ⟨v2, rfl, h2⟩⟩, fun c hc => by rw [hfp]; first | (simp [hc]; done) | grind⟩
  have := hr (7 + j) v (by rcases j with _ | j <;> first | exact hj | simp at hj)
  rw [← this, Nat.add_assoc]
theorem At.Yard_now {w : World} {b o : Nat} {x : Yard} {fp : List Nat} (h : At w b o x fp) : ∃ f1, At w b (o + 0) x.now f1 ∧ ∀ c ∈ f1, c ∈ fp := by
  obtain ⟨cs, hr, hc⟩ := h
  obtain ⟨v1, v2, f1, f2, rfl, hok, h1, h2, hfp⟩ := hc
  refine ⟨[], ⟨[I x.now], fun j v hj => ?_, ⟨rfl, rfl, hok.1⟩⟩, by simp⟩
  have := hr (0 + j) v (by rcases j with _ | j <;> first | exact hj | simp at hj)
  rw [← this, Nat.add_assoc]
theorem At.Yard_seq {w : World} {b o : Nat} {x : Yard} {fp : List Nat} (h : At w b o x fp) : ∃ f1, At w b (o + 1) x.seq f1 ∧ ∀ c ∈ f1, c ∈ fp := by
  obtain ⟨cs, hr, hc⟩ := h
  obtain ⟨v1, v2, f1, f2, rfl, hok, h1, h2, hfp⟩ := hc
  refine ⟨[], ⟨[I x.seq], fun j v hj => ?_, ⟨rfl, rfl, hok.2⟩⟩, by simp⟩
  have := hr (1 + j) v (by rcases j with _ | j <;> first | exact hj | simp at hj)
  rw [← this, Nat.add_assoc]
theorem At.Yard_shelf {w : World} {b o : Nat} {x : Yard} {fp : List Nat} (h : At w b o x fp) : ∃ f1, At w b (o + 2) x.shelf f1 ∧ ∀ c ∈ f1, c ∈ fp := by
  obtain ⟨cs, hr, hc⟩ := h
  obtain ⟨v1, v2, f1, f2, rfl, hok, h1, h2, hfp⟩ := hc
  refine ⟨f1, ⟨[v1], fun j v hj => ?_, ⟨v1, rfl, h1⟩⟩, fun c hc => by rw [hfp]; first | (simp [hc]; done) | grind⟩
  have := hr (2 + j) v (by rcases j with _ | j <;> first | exact hj | simp at hj)
  rw [← this, Nat.add_assoc]
theorem At.Yard_runs {w : World} {b o : Nat} {x : Yard} {fp : List Nat} (h : At w b o x fp) : ∃ f1, At w b (o + 3) x.runs f1 ∧ ∀ c ∈ f1, c ∈ fp := by
  obtain ⟨cs, hr, hc⟩ := h
  obtain ⟨v1, v2, f1, f2, rfl, hok, h1, h2, hfp⟩ := hc
  refine ⟨f2, ⟨[v2], fun j v hj => ?_, ⟨v2, rfl, h2⟩⟩, fun c hc => by rw [hfp]; first | (simp [hc]; done) | grind⟩
  have := hr (3 + j) v (by rcases j with _ | j <;> first | exact hj | simp at hj)
  rw [← this, Nat.add_assoc]
theorem At.Reply_code {w : World} {b o : Nat} {x : Reply} {fp : List Nat} (h : At w b o x fp) : ∃ f1, At w b (o + 0) x.code f1 ∧ ∀ c ∈ f1, c ∈ fp := by
  obtain ⟨cs, hr, hc⟩ := h
  obtain ⟨rfl, rfl, hok⟩ := hc
  refine ⟨[], ⟨[I x.code], fun j v hj => ?_, ⟨rfl, rfl, hok.1⟩⟩, by simp⟩
  have := hr (0 + j) v (by rcases j with _ | j <;> first | exact hj | simp at hj)
  rw [← this, Nat.add_assoc]
theorem At.Reply_run {w : World} {b o : Nat} {x : Reply} {fp : List Nat} (h : At w b o x fp) : ∃ f1, At w b (o + 1) x.run f1 ∧ ∀ c ∈ f1, c ∈ fp := by
  obtain ⟨cs, hr, hc⟩ := h
  obtain ⟨rfl, rfl, hok⟩ := hc
  refine ⟨[], ⟨[I x.run], fun j v hj => ?_, ⟨rfl, rfl, hok.2.1⟩⟩, by simp⟩
  have := hr (1 + j) v (by rcases j with _ | j <;> first | exact hj | simp at hj)
  rw [← this, Nat.add_assoc]
theorem At.Reply_task {w : World} {b o : Nat} {x : Reply} {fp : List Nat} (h : At w b o x fp) : ∃ f1, At w b (o + 2) x.task f1 ∧ ∀ c ∈ f1, c ∈ fp := by
  obtain ⟨cs, hr, hc⟩ := h
  obtain ⟨rfl, rfl, hok⟩ := hc
  refine ⟨[], ⟨[I x.task], fun j v hj => ?_, ⟨rfl, rfl, hok.2.2.1⟩⟩, by simp⟩
  have := hr (2 + j) v (by rcases j with _ | j <;> first | exact hj | simp at hj)
  rw [← this, Nat.add_assoc]
theorem At.Reply_try_ {w : World} {b o : Nat} {x : Reply} {fp : List Nat} (h : At w b o x fp) : ∃ f1, At w b (o + 3) x.try_ f1 ∧ ∀ c ∈ f1, c ∈ fp := by
  obtain ⟨cs, hr, hc⟩ := h
  obtain ⟨rfl, rfl, hok⟩ := hc
  refine ⟨[], ⟨[I x.try_], fun j v hj => ?_, ⟨rfl, rfl, hok.2.2.2⟩⟩, by simp⟩
  have := hr (3 + j) v (by rcases j with _ | j <;> first | exact hj | simp at hj)
  rw [← this, Nat.add_assoc]
theorem At.Deed_kind {w : World} {b o : Nat} {x : Deed} {fp : List Nat} (h : At w b o x fp) : ∃ f1, At w b (o + 0) x.kind f1 ∧ ∀ c ∈ f1, c ∈ fp := by
  obtain ⟨cs, hr, hc⟩ := h
  obtain ⟨v1, f1, rfl, hok, h1, hfp⟩ := hc
  refine ⟨[], ⟨[I x.kind], fun j v hj => ?_, ⟨rfl, rfl, hok.1⟩⟩, by simp⟩
  have := hr (0 + j) v (by rcases j with _ | j <;> first | exact hj | simp at hj)
  rw [← this, Nat.add_assoc]
theorem At.Deed_run {w : World} {b o : Nat} {x : Deed} {fp : List Nat} (h : At w b o x fp) : ∃ f1, At w b (o + 1) x.run f1 ∧ ∀ c ∈ f1, c ∈ fp := by
  obtain ⟨cs, hr, hc⟩ := h
  obtain ⟨v1, f1, rfl, hok, h1, hfp⟩ := hc
  refine ⟨[], ⟨[I x.run], fun j v hj => ?_, ⟨rfl, rfl, hok.2.1⟩⟩, by simp⟩
  have := hr (1 + j) v (by rcases j with _ | j <;> first | exact hj | simp at hj)
  rw [← this, Nat.add_assoc]
theorem At.Deed_plan {w : World} {b o : Nat} {x : Deed} {fp : List Nat} (h : At w b o x fp) : ∃ f1, At w b (o + 2) x.plan f1 ∧ ∀ c ∈ f1, c ∈ fp := by
  obtain ⟨cs, hr, hc⟩ := h
  obtain ⟨v1, f1, rfl, hok, h1, hfp⟩ := hc
  refine ⟨f1, ⟨[I x.plan.prio, I x.plan.most, I x.plan.wait, I x.plan.tasks, v1], fun j v hj => ?_, ⟨v1, f1, rfl, hok.2.2.1, h1, rfl⟩⟩, fun c hc => by rw [hfp]; first | (simp [hc]; done) | grind⟩
  have := hr (2 + j) v (by rcases j with _ | _ | _ | _ | _ | j <;> first | exact hj | simp at hj)
  rw [← this, Nat.add_assoc]
theorem At.Deed_task {w : World} {b o : Nat} {x : Deed} {fp : List Nat} (h : At w b o x fp) : ∃ f1, At w b (o + 7) x.task f1 ∧ ∀ c ∈ f1, c ∈ fp := by
  obtain ⟨cs, hr, hc⟩ := h
  obtain ⟨v1, f1, rfl, hok, h1, hfp⟩ := hc
  refine ⟨[], ⟨[I x.task], fun j v hj => ?_, ⟨rfl, rfl, hok.2.2.2.1⟩⟩, by simp⟩
  have := hr (7 + j) v (by rcases j with _ | j <;> first | exact hj | simp at hj)
  rw [← this, Nat.add_assoc]
theorem At.Deed_try_ {w : World} {b o : Nat} {x : Deed} {fp : List Nat} (h : At w b o x fp) : ∃ f1, At w b (o + 8) x.try_ f1 ∧ ∀ c ∈ f1, c ∈ fp := by
  obtain ⟨cs, hr, hc⟩ := h
  obtain ⟨v1, f1, rfl, hok, h1, hfp⟩ := hc
  refine ⟨[], ⟨[I x.try_], fun j v hj => ?_, ⟨rfl, rfl, hok.2.2.2.2.1⟩⟩, by simp⟩
  have := hr (8 + j) v (by rcases j with _ | j <;> first | exact hj | simp at hj)
  rw [← this, Nat.add_assoc]
theorem At.Deed_worker {w : World} {b o : Nat} {x : Deed} {fp : List Nat} (h : At w b o x fp) : ∃ f1, At w b (o + 9) x.worker f1 ∧ ∀ c ∈ f1, c ∈ fp := by
  obtain ⟨cs, hr, hc⟩ := h
  obtain ⟨v1, f1, rfl, hok, h1, hfp⟩ := hc
  refine ⟨[], ⟨[I x.worker], fun j v hj => ?_, ⟨rfl, rfl, hok.2.2.2.2.2.1⟩⟩, by simp⟩
  have := hr (9 + j) v (by rcases j with _ | j <;> first | exact hj | simp at hj)
  rw [← this, Nat.add_assoc]
theorem At.Deed_draw {w : World} {b o : Nat} {x : Deed} {fp : List Nat} (h : At w b o x fp) : ∃ f1, At w b (o + 10) x.draw f1 ∧ ∀ c ∈ f1, c ∈ fp := by
  obtain ⟨cs, hr, hc⟩ := h
  obtain ⟨v1, f1, rfl, hok, h1, hfp⟩ := hc
  refine ⟨[], ⟨[I x.draw], fun j v hj => ?_, ⟨rfl, rfl, hok.2.2.2.2.2.2⟩⟩, by simp⟩
  have := hr (10 + j) v (by rcases j with _ | j <;> first | exact hj | simp at hj)
  rw [← this, Nat.add_assoc]
theorem At.Note_seq {w : World} {b o : Nat} {x : Note} {fp : List Nat} (h : At w b o x fp) : ∃ f1, At w b (o + 0) x.seq f1 ∧ ∀ c ∈ f1, c ∈ fp := by
  obtain ⟨cs, hr, hc⟩ := h
  obtain ⟨v1, f1, rfl, hok, h1, hfp⟩ := hc
  refine ⟨[], ⟨[I x.seq], fun j v hj => ?_, ⟨rfl, rfl, hok.1⟩⟩, by simp⟩
  have := hr (0 + j) v (by rcases j with _ | j <;> first | exact hj | simp at hj)
  rw [← this, Nat.add_assoc]
theorem At.Note_deed {w : World} {b o : Nat} {x : Note} {fp : List Nat} (h : At w b o x fp) : ∃ f1, At w b (o + 1) x.deed f1 ∧ ∀ c ∈ f1, c ∈ fp := by
  obtain ⟨cs, hr, hc⟩ := h
  obtain ⟨v1, f1, rfl, hok, h1, hfp⟩ := hc
  refine ⟨f1, ⟨[I x.deed.kind, I x.deed.run, I x.deed.plan.prio, I x.deed.plan.most, I x.deed.plan.wait, I x.deed.plan.tasks, v1, I x.deed.task, I x.deed.try_, I x.deed.worker, I x.deed.draw], fun j v hj => ?_, ⟨v1, f1, rfl, hok.2, h1, rfl⟩⟩, fun c hc => by rw [hfp]; first | (simp [hc]; done) | grind⟩
  have := hr (1 + j) v (by rcases j with _ | _ | _ | _ | _ | _ | _ | _ | _ | _ | _ | j <;> first | exact hj | simp at hj)
  rw [← this, Nat.add_assoc]
theorem At.Wait_call {w : World} {b o : Nat} {x : Wait} {fp : List Nat} (h : At w b o x fp) : ∃ f1, At w b (o + 0) x.call f1 ∧ ∀ c ∈ f1, c ∈ fp := by
  obtain ⟨cs, hr, hc⟩ := h
  obtain ⟨rfl, rfl, hok⟩ := hc
  refine ⟨[], ⟨[I x.call], fun j v hj => ?_, ⟨rfl, rfl, hok.1⟩⟩, by simp⟩
  have := hr (0 + j) v (by rcases j with _ | j <;> first | exact hj | simp at hj)
  rw [← this, Nat.add_assoc]
theorem At.Wait_reply {w : World} {b o : Nat} {x : Wait} {fp : List Nat} (h : At w b o x fp) : ∃ f1, At w b (o + 1) x.reply f1 ∧ ∀ c ∈ f1, c ∈ fp := by
  obtain ⟨cs, hr, hc⟩ := h
  obtain ⟨rfl, rfl, hok⟩ := hc
  refine ⟨[], ⟨[I x.reply.code, I x.reply.run, I x.reply.task, I x.reply.try_], fun j v hj => ?_, ⟨rfl, rfl, hok.2⟩⟩, by simp⟩
  have := hr (1 + j) v (by rcases j with _ | _ | _ | _ | j <;> first | exact hj | simp at hj)
  rw [← this, Nat.add_assoc]
theorem At.File_name {w : World} {b o : Nat} {x : File} {fp : List Nat} (h : At w b o x fp) : ∃ f1, At w b (o + 0) x.name f1 ∧ ∀ c ∈ f1, c ∈ fp := by
  obtain ⟨cs, hr, hc⟩ := h
  obtain ⟨rfl, rfl, hok⟩ := hc
  refine ⟨[], ⟨[.string x.name], fun j v hj => ?_, ⟨rfl, rfl, hok.1⟩⟩, by simp⟩
  have := hr (0 + j) v (by rcases j with _ | j <;> first | exact hj | simp at hj)
  rw [← this, Nat.add_assoc]
theorem At.File_data {w : World} {b o : Nat} {x : File} {fp : List Nat} (h : At w b o x fp) : ∃ f1, At w b (o + 1) x.data f1 ∧ ∀ c ∈ f1, c ∈ fp := by
  obtain ⟨cs, hr, hc⟩ := h
  obtain ⟨rfl, rfl, hok⟩ := hc
  refine ⟨[], ⟨[.string x.data], fun j v hj => ?_, ⟨rfl, rfl, hok.2.1⟩⟩, by simp⟩
  have := hr (1 + j) v (by rcases j with _ | j <;> first | exact hj | simp at hj)
  rw [← this, Nat.add_assoc]
theorem At.File_safe {w : World} {b o : Nat} {x : File} {fp : List Nat} (h : At w b o x fp) : ∃ f1, At w b (o + 2) x.safe f1 ∧ ∀ c ∈ f1, c ∈ fp := by
  obtain ⟨cs, hr, hc⟩ := h
  obtain ⟨rfl, rfl, hok⟩ := hc
  refine ⟨[], ⟨[I x.safe], fun j v hj => ?_, ⟨rfl, rfl, hok.2.2⟩⟩, by simp⟩
  have := hr (2 + j) v (by rcases j with _ | j <;> first | exact hj | simp at hj)
  rw [← this, Nat.add_assoc]
theorem At.Disk_files {w : World} {b o : Nat} {x : Disk} {fp : List Nat} (h : At w b o x fp) : ∃ f1, At w b (o + 0) x.files f1 ∧ ∀ c ∈ f1, c ∈ fp := by
  obtain ⟨cs, hr, hc⟩ := h
  obtain ⟨v1, f1, rfl, hok, h1, hfp⟩ := hc
  refine ⟨f1, ⟨[v1], fun j v hj => ?_, ⟨v1, rfl, h1⟩⟩, fun c hc => by rw [hfp]; first | (simp [hc]; done) | grind⟩
  have := hr (0 + j) v (by rcases j with _ | j <;> first | exact hj | simp at hj)
  rw [← this, Nat.add_assoc]
theorem At.Engine_yard {w : World} {b o : Nat} {x : Engine} {fp : List Nat} (h : At w b o x fp) : ∃ f1, At w b (o + 0) x.yard f1 ∧ ∀ c ∈ f1, c ∈ fp := by
  obtain ⟨cs, hr, hc⟩ := h
  obtain ⟨v1, v2, v3, v4, f1, f2, f3, f4, rfl, hok, h1, h2, h3, h4, hfp⟩ := hc
  refine ⟨f1 ++ (f2), ⟨[I x.yard.now, I x.yard.seq, v1, v2], fun j v hj => ?_, ⟨v1, v2, f1, f2, rfl, hok.1, h1, h2, rfl⟩⟩, fun c hc => by rw [hfp]; first | (simp [hc]; done) | grind⟩
  have := hr (0 + j) v (by rcases j with _ | _ | _ | _ | j <;> first | exact hj | simp at hj)
  rw [← this, Nat.add_assoc]
theorem At.Engine_disk {w : World} {b o : Nat} {x : Engine} {fp : List Nat} (h : At w b o x fp) : ∃ f1, At w b (o + 4) x.disk f1 ∧ ∀ c ∈ f1, c ∈ fp := by
  obtain ⟨cs, hr, hc⟩ := h
  obtain ⟨v1, v2, v3, v4, f1, f2, f3, f4, rfl, hok, h1, h2, h3, h4, hfp⟩ := hc
  refine ⟨f3, ⟨[v3], fun j v hj => ?_, ⟨v3, f3, rfl, trivial, h3, rfl⟩⟩, fun c hc => by rw [hfp]; first | (simp [hc]; done) | grind⟩
  have := hr (4 + j) v (by rcases j with _ | j <;> first | exact hj | simp at hj)
  rw [← this, Nat.add_assoc]
theorem At.Engine_next {w : World} {b o : Nat} {x : Engine} {fp : List Nat} (h : At w b o x fp) : ∃ f1, At w b (o + 5) x.next f1 ∧ ∀ c ∈ f1, c ∈ fp := by
  obtain ⟨cs, hr, hc⟩ := h
  obtain ⟨v1, v2, v3, v4, f1, f2, f3, f4, rfl, hok, h1, h2, h3, h4, hfp⟩ := hc
  refine ⟨[], ⟨[I x.next], fun j v hj => ?_, ⟨rfl, rfl, hok.2.1⟩⟩, by simp⟩
  have := hr (5 + j) v (by rcases j with _ | j <;> first | exact hj | simp at hj)
  rw [← this, Nat.add_assoc]
theorem At.Engine_calls {w : World} {b o : Nat} {x : Engine} {fp : List Nat} (h : At w b o x fp) : ∃ f1, At w b (o + 6) x.calls f1 ∧ ∀ c ∈ f1, c ∈ fp := by
  obtain ⟨cs, hr, hc⟩ := h
  obtain ⟨v1, v2, v3, v4, f1, f2, f3, f4, rfl, hok, h1, h2, h3, h4, hfp⟩ := hc
  refine ⟨[], ⟨[I x.calls], fun j v hj => ?_, ⟨rfl, rfl, hok.2.2.1⟩⟩, by simp⟩
  have := hr (6 + j) v (by rcases j with _ | j <;> first | exact hj | simp at hj)
  rw [← this, Nat.add_assoc]
theorem At.Engine_waits {w : World} {b o : Nat} {x : Engine} {fp : List Nat} (h : At w b o x fp) : ∃ f1, At w b (o + 7) x.waits f1 ∧ ∀ c ∈ f1, c ∈ fp := by
  obtain ⟨cs, hr, hc⟩ := h
  obtain ⟨v1, v2, v3, v4, f1, f2, f3, f4, rfl, hok, h1, h2, h3, h4, hfp⟩ := hc
  refine ⟨f4, ⟨[v4], fun j v hj => ?_, ⟨v4, rfl, h4⟩⟩, fun c hc => by rw [hfp]; first | (simp [hc]; done) | grind⟩
  have := hr (7 + j) v (by rcases j with _ | j <;> first | exact hj | simp at hj)
  rw [← this, Nat.add_assoc]
theorem At.Engine_state {w : World} {b o : Nat} {x : Engine} {fp : List Nat} (h : At w b o x fp) : ∃ f1, At w b (o + 8) x.state f1 ∧ ∀ c ∈ f1, c ∈ fp := by
  obtain ⟨cs, hr, hc⟩ := h
  obtain ⟨v1, v2, v3, v4, f1, f2, f3, f4, rfl, hok, h1, h2, h3, h4, hfp⟩ := hc
  refine ⟨[], ⟨[I x.state], fun j v hj => ?_, ⟨rfl, rfl, hok.2.2.2⟩⟩, by simp⟩
  have := hr (8 + j) v (by rcases j with _ | j <;> first | exact hj | simp at hj)
  rw [← this, Nat.add_assoc]
theorem At.Engine_broken {w : World} {b o : Nat} {x : Engine} {fp : List Nat} (h : At w b o x fp) : ∃ f1, At w b (o + 9) x.broken f1 ∧ ∀ c ∈ f1, c ∈ fp := by
  obtain ⟨cs, hr, hc⟩ := h
  obtain ⟨v1, v2, v3, v4, f1, f2, f3, f4, rfl, hok, h1, h2, h3, h4, hfp⟩ := hc
  refine ⟨[], ⟨[.bool x.broken], fun j v hj => ?_, ⟨rfl, rfl, trivial⟩⟩, by simp⟩
  have := hr (9 + j) v (by rcases j with _ | j <;> first | exact hj | simp at hj)
  rw [← this, Nat.add_assoc]
theorem At.World_engine {w : World} {b o : Nat} {x : WorldD} {fp : List Nat} (h : At w b o x fp) : ∃ f1, At w b (o + 0) x.engine f1 ∧ ∀ c ∈ f1, c ∈ fp := by
  obtain ⟨cs, hr, hc⟩ := h
  obtain ⟨v1, v2, v3, v4, v5, v6, f1, f2, f3, f4, f5, f6, rfl, hok, h1, h2, h3, h4, h5, h6, hfp⟩ := hc
  refine ⟨f1 ++ (f2 ++ (f3 ++ (f4))), ⟨[I x.engine.yard.now, I x.engine.yard.seq, v1, v2, v3, I x.engine.next, I x.engine.calls, v4, I x.engine.state, .bool x.engine.broken], fun j v hj => ?_, ⟨v1, v2, v3, v4, f1, f2, f3, f4, rfl, hok.1, h1, h2, h3, h4, rfl⟩⟩, fun c hc => by rw [hfp]; first | (simp [hc]; done) | grind⟩
  have := hr (0 + j) v (by rcases j with _ | _ | _ | _ | _ | _ | _ | _ | _ | _ | j <;> first | exact hj | simp at hj)
  rw [← this, Nat.add_assoc]
theorem At.World_deeds {w : World} {b o : Nat} {x : WorldD} {fp : List Nat} (h : At w b o x fp) : ∃ f1, At w b (o + 10) x.deeds f1 ∧ ∀ c ∈ f1, c ∈ fp := by
  obtain ⟨cs, hr, hc⟩ := h
  obtain ⟨v1, v2, v3, v4, v5, v6, f1, f2, f3, f4, f5, f6, rfl, hok, h1, h2, h3, h4, h5, h6, hfp⟩ := hc
  refine ⟨f5, ⟨[v5], fun j v hj => ?_, ⟨v5, rfl, h5⟩⟩, fun c hc => by rw [hfp]; first | (simp [hc]; done) | grind⟩
  have := hr (10 + j) v (by rcases j with _ | j <;> first | exact hj | simp at hj)
  rw [← this, Nat.add_assoc]
theorem At.World_replies {w : World} {b o : Nat} {x : WorldD} {fp : List Nat} (h : At w b o x fp) : ∃ f1, At w b (o + 11) x.replies f1 ∧ ∀ c ∈ f1, c ∈ fp := by
  obtain ⟨cs, hr, hc⟩ := h
  obtain ⟨v1, v2, v3, v4, v5, v6, f1, f2, f3, f4, f5, f6, rfl, hok, h1, h2, h3, h4, h5, h6, hfp⟩ := hc
  refine ⟨f6, ⟨[v6], fun j v hj => ?_, ⟨v6, rfl, h6⟩⟩, fun c hc => by rw [hfp]; first | (simp [hc]; done) | grind⟩
  have := hr (11 + j) v (by rcases j with _ | j <;> first | exact hj | simp at hj)
  rw [← this, Nat.add_assoc]
theorem At.World_told {w : World} {b o : Nat} {x : WorldD} {fp : List Nat} (h : At w b o x fp) : ∃ f1, At w b (o + 12) x.told f1 ∧ ∀ c ∈ f1, c ∈ fp := by
  obtain ⟨cs, hr, hc⟩ := h
  obtain ⟨v1, v2, v3, v4, v5, v6, f1, f2, f3, f4, f5, f6, rfl, hok, h1, h2, h3, h4, h5, h6, hfp⟩ := hc
  refine ⟨[], ⟨[I x.told], fun j v hj => ?_, ⟨rfl, rfl, hok.2.1⟩⟩, by simp⟩
  have := hr (12 + j) v (by rcases j with _ | j <;> first | exact hj | simp at hj)
  rw [← this, Nat.add_assoc]
theorem At.World_fell {w : World} {b o : Nat} {x : WorldD} {fp : List Nat} (h : At w b o x fp) : ∃ f1, At w b (o + 13) x.fell f1 ∧ ∀ c ∈ f1, c ∈ fp := by
  obtain ⟨cs, hr, hc⟩ := h
  obtain ⟨v1, v2, v3, v4, v5, v6, f1, f2, f3, f4, f5, f6, rfl, hok, h1, h2, h3, h4, h5, h6, hfp⟩ := hc
  refine ⟨[], ⟨[I x.fell], fun j v hj => ?_, ⟨rfl, rfl, hok.2.2⟩⟩, by simp⟩
  have := hr (13 + j) v (by rcases j with _ | j <;> first | exact hj | simp at hj)
  rw [← this, Nat.add_assoc]
theorem At.Act_kind {w : World} {b o : Nat} {x : ActD} {fp : List Nat} (h : At w b o x fp) : ∃ f1, At w b (o + 0) x.kind f1 ∧ ∀ c ∈ f1, c ∈ fp := by
  obtain ⟨cs, hr, hc⟩ := h
  obtain ⟨v1, v2, f1, f2, rfl, hok, h1, h2, hfp⟩ := hc
  refine ⟨[], ⟨[I x.kind], fun j v hj => ?_, ⟨rfl, rfl, hok.1⟩⟩, by simp⟩
  have := hr (0 + j) v (by rcases j with _ | j <;> first | exact hj | simp at hj)
  rw [← this, Nat.add_assoc]
theorem At.Act_deed {w : World} {b o : Nat} {x : ActD} {fp : List Nat} (h : At w b o x fp) : ∃ f1, At w b (o + 1) x.deed f1 ∧ ∀ c ∈ f1, c ∈ fp := by
  obtain ⟨cs, hr, hc⟩ := h
  obtain ⟨v1, v2, f1, f2, rfl, hok, h1, h2, hfp⟩ := hc
  refine ⟨f1, ⟨[I x.deed.kind, I x.deed.run, I x.deed.plan.prio, I x.deed.plan.most, I x.deed.plan.wait, I x.deed.plan.tasks, v1, I x.deed.task, I x.deed.try_, I x.deed.worker, I x.deed.draw], fun j v hj => ?_, ⟨v1, f1, rfl, hok.2.1, h1, rfl⟩⟩, fun c hc => by rw [hfp]; first | (simp [hc]; done) | grind⟩
  have := hr (1 + j) v (by rcases j with _ | _ | _ | _ | _ | _ | _ | _ | _ | _ | _ | j <;> first | exact hj | simp at hj)
  rw [← this, Nat.add_assoc]
theorem At.Act_n {w : World} {b o : Nat} {x : ActD} {fp : List Nat} (h : At w b o x fp) : ∃ f1, At w b (o + 12) x.n f1 ∧ ∀ c ∈ f1, c ∈ fp := by
  obtain ⟨cs, hr, hc⟩ := h
  obtain ⟨v1, v2, f1, f2, rfl, hok, h1, h2, hfp⟩ := hc
  refine ⟨[], ⟨[I x.n], fun j v hj => ?_, ⟨rfl, rfl, hok.2.2⟩⟩, by simp⟩
  have := hr (12 + j) v (by rcases j with _ | j <;> first | exact hj | simp at hj)
  rw [← this, Nat.add_assoc]
theorem At.Act_keep {w : World} {b o : Nat} {x : ActD} {fp : List Nat} (h : At w b o x fp) : ∃ f1, At w b (o + 13) x.keep f1 ∧ ∀ c ∈ f1, c ∈ fp := by
  obtain ⟨cs, hr, hc⟩ := h
  obtain ⟨v1, v2, f1, f2, rfl, hok, h1, h2, hfp⟩ := hc
  refine ⟨f2, ⟨[v2], fun j v hj => ?_, ⟨v2, rfl, h2⟩⟩, fun c hc => by rw [hfp]; first | (simp [hc]; done) | grind⟩
  have := hr (13 + j) v (by rcases j with _ | j <;> first | exact hj | simp at hj)
  rw [← this, Nat.add_assoc]
theorem At.Hand_run {w : World} {b o : Nat} {x : Hand} {fp : List Nat} (h : At w b o x fp) : ∃ f1, At w b (o + 0) x.run f1 ∧ ∀ c ∈ f1, c ∈ fp := by
  obtain ⟨cs, hr, hc⟩ := h
  obtain ⟨rfl, rfl, hok⟩ := hc
  refine ⟨[], ⟨[I x.run], fun j v hj => ?_, ⟨rfl, rfl, hok.1⟩⟩, by simp⟩
  have := hr (0 + j) v (by rcases j with _ | j <;> first | exact hj | simp at hj)
  rw [← this, Nat.add_assoc]
theorem At.Hand_task {w : World} {b o : Nat} {x : Hand} {fp : List Nat} (h : At w b o x fp) : ∃ f1, At w b (o + 1) x.task f1 ∧ ∀ c ∈ f1, c ∈ fp := by
  obtain ⟨cs, hr, hc⟩ := h
  obtain ⟨rfl, rfl, hok⟩ := hc
  refine ⟨[], ⟨[I x.task], fun j v hj => ?_, ⟨rfl, rfl, hok.2.1⟩⟩, by simp⟩
  have := hr (1 + j) v (by rcases j with _ | j <;> first | exact hj | simp at hj)
  rw [← this, Nat.add_assoc]
theorem At.Hand_try_ {w : World} {b o : Nat} {x : Hand} {fp : List Nat} (h : At w b o x fp) : ∃ f1, At w b (o + 2) x.try_ f1 ∧ ∀ c ∈ f1, c ∈ fp := by
  obtain ⟨cs, hr, hc⟩ := h
  obtain ⟨rfl, rfl, hok⟩ := hc
  refine ⟨[], ⟨[I x.try_], fun j v hj => ?_, ⟨rfl, rfl, hok.2.2.1⟩⟩, by simp⟩
  have := hr (2 + j) v (by rcases j with _ | j <;> first | exact hj | simp at hj)
  rw [← this, Nat.add_assoc]
theorem At.Hand_at_ {w : World} {b o : Nat} {x : Hand} {fp : List Nat} (h : At w b o x fp) : ∃ f1, At w b (o + 3) x.at_ f1 ∧ ∀ c ∈ f1, c ∈ fp := by
  obtain ⟨cs, hr, hc⟩ := h
  obtain ⟨rfl, rfl, hok⟩ := hc
  refine ⟨[], ⟨[I x.at_], fun j v hj => ?_, ⟨rfl, rfl, hok.2.2.2⟩⟩, by simp⟩
  have := hr (3 + j) v (by rcases j with _ | j <;> first | exact hj | simp at hj)
  rw [← this, Nat.add_assoc]
theorem At.Span_deed {w : World} {b o : Nat} {x : Span} {fp : List Nat} (h : At w b o x fp) : ∃ f1, At w b (o + 0) x.deed f1 ∧ ∀ c ∈ f1, c ∈ fp := by
  obtain ⟨cs, hr, hc⟩ := h
  obtain ⟨v1, f1, rfl, hok, h1, hfp⟩ := hc
  refine ⟨f1, ⟨[I x.deed.kind, I x.deed.run, I x.deed.plan.prio, I x.deed.plan.most, I x.deed.plan.wait, I x.deed.plan.tasks, v1, I x.deed.task, I x.deed.try_, I x.deed.worker, I x.deed.draw], fun j v hj => ?_, ⟨v1, f1, rfl, hok.1, h1, rfl⟩⟩, fun c hc => by rw [hfp]; first | (simp [hc]; done) | grind⟩
  have := hr (0 + j) v (by rcases j with _ | _ | _ | _ | _ | _ | _ | _ | _ | _ | _ | j <;> first | exact hj | simp at hj)
  rw [← this, Nat.add_assoc]
theorem At.Span_begin_ {w : World} {b o : Nat} {x : Span} {fp : List Nat} (h : At w b o x fp) : ∃ f1, At w b (o + 11) x.begin_ f1 ∧ ∀ c ∈ f1, c ∈ fp := by
  obtain ⟨cs, hr, hc⟩ := h
  obtain ⟨v1, f1, rfl, hok, h1, hfp⟩ := hc
  refine ⟨[], ⟨[I x.begin_], fun j v hj => ?_, ⟨rfl, rfl, hok.2.1⟩⟩, by simp⟩
  have := hr (11 + j) v (by rcases j with _ | j <;> first | exact hj | simp at hj)
  rw [← this, Nat.add_assoc]
theorem At.Span_end_ {w : World} {b o : Nat} {x : Span} {fp : List Nat} (h : At w b o x fp) : ∃ f1, At w b (o + 12) x.end_ f1 ∧ ∀ c ∈ f1, c ∈ fp := by
  obtain ⟨cs, hr, hc⟩ := h
  obtain ⟨v1, f1, rfl, hok, h1, hfp⟩ := hc
  refine ⟨[], ⟨[I x.end_], fun j v hj => ?_, ⟨rfl, rfl, hok.2.2.1⟩⟩, by simp⟩
  have := hr (12 + j) v (by rcases j with _ | j <;> first | exact hj | simp at hj)
  rw [← this, Nat.add_assoc]
theorem At.Span_reply {w : World} {b o : Nat} {x : Span} {fp : List Nat} (h : At w b o x fp) : ∃ f1, At w b (o + 13) x.reply f1 ∧ ∀ c ∈ f1, c ∈ fp := by
  obtain ⟨cs, hr, hc⟩ := h
  obtain ⟨v1, f1, rfl, hok, h1, hfp⟩ := hc
  refine ⟨[], ⟨[I x.reply.code, I x.reply.run, I x.reply.task, I x.reply.try_], fun j v hj => ?_, ⟨rfl, rfl, hok.2.2.2⟩⟩, by simp⟩
  have := hr (13 + j) v (by rcases j with _ | _ | _ | _ | j <;> first | exact hj | simp at hj)
  rw [← this, Nat.add_assoc]
theorem At.Crew_yard {w : World} {b o : Nat} {x : Crew} {fp : List Nat} (h : At w b o x fp) : ∃ f1, At w b (o + 0) x.yard f1 ∧ ∀ c ∈ f1, c ∈ fp := by
  obtain ⟨cs, hr, hc⟩ := h
  obtain ⟨v1, v2, v3, f1, f2, f3, rfl, hok, h1, h2, h3, hfp⟩ := hc
  refine ⟨f1 ++ (f2), ⟨[I x.yard.now, I x.yard.seq, v1, v2], fun j v hj => ?_, ⟨v1, v2, f1, f2, rfl, hok.1, h1, h2, rfl⟩⟩, fun c hc => by rw [hfp]; first | (simp [hc]; done) | grind⟩
  have := hr (0 + j) v (by rcases j with _ | _ | _ | _ | j <;> first | exact hj | simp at hj)
  rw [← this, Nat.add_assoc]
theorem At.Crew_holds {w : World} {b o : Nat} {x : Crew} {fp : List Nat} (h : At w b o x fp) : ∃ f1, At w b (o + 4) x.holds f1 ∧ ∀ c ∈ f1, c ∈ fp := by
  obtain ⟨cs, hr, hc⟩ := h
  obtain ⟨v1, v2, v3, f1, f2, f3, rfl, hok, h1, h2, h3, hfp⟩ := hc
  refine ⟨f3, ⟨[v3], fun j v hj => ?_, ⟨v3, rfl, h3⟩⟩, fun c hc => by rw [hfp]; first | (simp [hc]; done) | grind⟩
  have := hr (4 + j) v (by rcases j with _ | j <;> first | exact hj | simp at hj)
  rw [← this, Nat.add_assoc]
theorem At.Crew_turns {w : World} {b o : Nat} {x : Crew} {fp : List Nat} (h : At w b o x fp) : ∃ f1, At w b (o + 5) x.turns f1 ∧ ∀ c ∈ f1, c ∈ fp := by
  obtain ⟨cs, hr, hc⟩ := h
  obtain ⟨v1, v2, v3, f1, f2, f3, rfl, hok, h1, h2, h3, hfp⟩ := hc
  refine ⟨[], ⟨[I x.turns], fun j v hj => ?_, ⟨rfl, rfl, hok.2.1⟩⟩, by simp⟩
  have := hr (5 + j) v (by rcases j with _ | j <;> first | exact hj | simp at hj)
  rw [← this, Nat.add_assoc]
theorem At.Crew_did {w : World} {b o : Nat} {x : Crew} {fp : List Nat} (h : At w b o x fp) : ∃ f1, At w b (o + 6) x.did f1 ∧ ∀ c ∈ f1, c ∈ fp := by
  obtain ⟨cs, hr, hc⟩ := h
  obtain ⟨v1, v2, v3, f1, f2, f3, rfl, hok, h1, h2, h3, hfp⟩ := hc
  refine ⟨[], ⟨[I x.did], fun j v hj => ?_, ⟨rfl, rfl, hok.2.2⟩⟩, by simp⟩
  have := hr (6 + j) v (by rcases j with _ | j <;> first | exact hj | simp at hj)
  rw [← this, Nat.add_assoc]
theorem At.View_state {w : World} {b o : Nat} {x : View} {fp : List Nat} (h : At w b o x fp) : ∃ f1, At w b (o + 0) x.state f1 ∧ ∀ c ∈ f1, c ∈ fp := by
  obtain ⟨cs, hr, hc⟩ := h
  obtain ⟨rfl, rfl, hok⟩ := hc
  refine ⟨[], ⟨[I x.state], fun j v hj => ?_, ⟨rfl, rfl, hok.1⟩⟩, by simp⟩
  have := hr (0 + j) v (by rcases j with _ | j <;> first | exact hj | simp at hj)
  rw [← this, Nat.add_assoc]
theorem At.View_waits {w : World} {b o : Nat} {x : View} {fp : List Nat} (h : At w b o x fp) : ∃ f1, At w b (o + 1) x.waits f1 ∧ ∀ c ∈ f1, c ∈ fp := by
  obtain ⟨cs, hr, hc⟩ := h
  obtain ⟨rfl, rfl, hok⟩ := hc
  refine ⟨[], ⟨[I x.waits], fun j v hj => ?_, ⟨rfl, rfl, hok.2.1⟩⟩, by simp⟩
  have := hr (1 + j) v (by rcases j with _ | j <;> first | exact hj | simp at hj)
  rw [← this, Nat.add_assoc]
theorem At.View_ready {w : World} {b o : Nat} {x : View} {fp : List Nat} (h : At w b o x fp) : ∃ f1, At w b (o + 2) x.ready f1 ∧ ∀ c ∈ f1, c ∈ fp := by
  obtain ⟨cs, hr, hc⟩ := h
  obtain ⟨rfl, rfl, hok⟩ := hc
  refine ⟨[], ⟨[I x.ready], fun j v hj => ?_, ⟨rfl, rfl, hok.2.2.1⟩⟩, by simp⟩
  have := hr (2 + j) v (by rcases j with _ | j <;> first | exact hj | simp at hj)
  rw [← this, Nat.add_assoc]
theorem At.View_runs {w : World} {b o : Nat} {x : View} {fp : List Nat} (h : At w b o x fp) : ∃ f1, At w b (o + 3) x.runs f1 ∧ ∀ c ∈ f1, c ∈ fp := by
  obtain ⟨cs, hr, hc⟩ := h
  obtain ⟨rfl, rfl, hok⟩ := hc
  refine ⟨[], ⟨[I x.runs], fun j v hj => ?_, ⟨rfl, rfl, hok.2.2.2.1⟩⟩, by simp⟩
  have := hr (3 + j) v (by rcases j with _ | j <;> first | exact hj | simp at hj)
  rw [← this, Nat.add_assoc]
theorem At.View_done {w : World} {b o : Nat} {x : View} {fp : List Nat} (h : At w b o x fp) : ∃ f1, At w b (o + 4) x.done f1 ∧ ∀ c ∈ f1, c ∈ fp := by
  obtain ⟨cs, hr, hc⟩ := h
  obtain ⟨rfl, rfl, hok⟩ := hc
  refine ⟨[], ⟨[I x.done], fun j v hj => ?_, ⟨rfl, rfl, hok.2.2.2.2.1⟩⟩, by simp⟩
  have := hr (4 + j) v (by rcases j with _ | j <;> first | exact hj | simp at hj)
  rw [← this, Nat.add_assoc]
theorem At.View_failed {w : World} {b o : Nat} {x : View} {fp : List Nat} (h : At w b o x fp) : ∃ f1, At w b (o + 5) x.failed f1 ∧ ∀ c ∈ f1, c ∈ fp := by
  obtain ⟨cs, hr, hc⟩ := h
  obtain ⟨rfl, rfl, hok⟩ := hc
  refine ⟨[], ⟨[I x.failed], fun j v hj => ?_, ⟨rfl, rfl, hok.2.2.2.2.2.1⟩⟩, by simp⟩
  have := hr (5 + j) v (by rcases j with _ | j <;> first | exact hj | simp at hj)
  rw [← this, Nat.add_assoc]
theorem At.View_left {w : World} {b o : Nat} {x : View} {fp : List Nat} (h : At w b o x fp) : ∃ f1, At w b (o + 6) x.left f1 ∧ ∀ c ∈ f1, c ∈ fp := by
  obtain ⟨cs, hr, hc⟩ := h
  obtain ⟨rfl, rfl, hok⟩ := hc
  refine ⟨[], ⟨[I x.left], fun j v hj => ?_, ⟨rfl, rfl, hok.2.2.2.2.2.2⟩⟩, by simp⟩
  have := hr (6 + j) v (by rcases j with _ | j <;> first | exact hj | simp at hj)
  rw [← this, Nat.add_assoc]

/-! ### Structs of a call's own, opened and shut -/
theorem open_Plan {w0 W : World} {cs : List Value} {x : Plan} {fp : List Nat} {rs : List Res} (h : St w0 W (Res.own (.agg cs.toArray) x fp :: rs)) : ∃ (v1 : Value) (f1 : List Nat), cs = [I x.prio, I x.most, I x.wait, I x.tasks, v1] ∧ x.ok ∧ St w0 W (Res.own v1 x.edges f1 :: rs) := by
  have ho := h.get 0 rfl
  obtain ⟨v1, f1, rfl, hok, h1, rfl⟩ := own_C ho rfl
  have hw := ho.2
  have hn := h.nodup
  rw [List.flatMap_cons, List.nodup_append] at hn
  refine ⟨v1, fp, rfl, hok, St.trade (rs1 := [_]) (rs2 := [Res.own v1 x.edges fp]) h (by simpa [Res.own] using hn.1) (by simp [Res.own]) ?_⟩
  intro r hr
  simp only [List.mem_cons, List.not_mem_nil, or_false] at hr
  rcases hr with rfl
  · exact ⟨h1.v, fun b hb => hw b (by simp [hb])⟩
theorem shut_Plan {w0 W : World} {x : Plan} {v1 : Value} {f1 : List Nat} {rs : List Res} (h : St w0 W (Res.own v1 x.edges f1 :: rs)) (hok : x.ok) : St w0 W (Res.own (.agg #[I x.prio, I x.most, I x.wait, I x.tasks, v1]) x (f1) :: rs) := by
  have hn := h.sub (rs' := [Res.own v1 x.edges f1]) (by simp)
  refine St.trade (rs1 := [Res.own v1 x.edges f1]) (rs2 := [_]) h (by simpa [Res.own] using hn.nodup) (by simp [Res.own]) ?_
  intro r hr
  simp only [List.mem_singleton] at hr
  subst hr
  refine ⟨⟨[I x.prio, I x.most, I x.wait, I x.tasks, v1], rfl, v1, f1, rfl, hok, own_Sl (h.get 0 rfl), rfl⟩, ?_⟩
  intro b hb
  exact own_lt (h.get 0 rfl) b hb
theorem open_Run {w0 W : World} {cs : List Value} {x : Run} {fp : List Nat} {rs : List Res} (h : St w0 W (Res.own (.agg cs.toArray) x fp :: rs)) : ∃ (v1 v2 : Value) (f1 f2 : List Nat), cs = [I x.id, I x.plan.prio, I x.plan.most, I x.plan.wait, I x.plan.tasks, v1, I x.state, v2] ∧ x.ok ∧ St w0 W (Res.own v1 x.plan.edges f1 :: Res.own v2 x.tasks f2 :: rs) := by
  have ho := h.get 0 rfl
  obtain ⟨v1, v2, f1, f2, rfl, hok, h1, h2, rfl⟩ := own_C ho rfl
  have hw := ho.2
  have hn := h.nodup
  rw [List.flatMap_cons, List.nodup_append] at hn
  refine ⟨v1, v2, f1, f2, rfl, hok, St.trade (rs1 := [_]) (rs2 := [Res.own v1 x.plan.edges f1, Res.own v2 x.tasks f2]) h (by simpa [Res.own] using hn.1) (by simp [Res.own]) ?_⟩
  intro r hr
  simp only [List.mem_cons, List.not_mem_nil, or_false] at hr
  rcases hr with rfl | rfl
  · exact ⟨h1.v, fun b hb => hw b (by simp [hb])⟩
  · exact ⟨h2.v, fun b hb => hw b (by simp [hb])⟩
theorem shut_Run {w0 W : World} {x : Run} {v1 v2 : Value} {f1 f2 : List Nat} {rs : List Res} (h : St w0 W (Res.own v1 x.plan.edges f1 :: Res.own v2 x.tasks f2 :: rs)) (hok : x.ok) : St w0 W (Res.own (.agg #[I x.id, I x.plan.prio, I x.plan.most, I x.plan.wait, I x.plan.tasks, v1, I x.state, v2]) x (f1 ++ (f2)) :: rs) := by
  have hn := h.sub (rs' := [Res.own v1 x.plan.edges f1, Res.own v2 x.tasks f2]) (by simp)
  refine St.trade (rs1 := [Res.own v1 x.plan.edges f1, Res.own v2 x.tasks f2]) (rs2 := [_]) h (by simpa [Res.own] using hn.nodup) (by simp [Res.own]) ?_
  intro r hr
  simp only [List.mem_singleton] at hr
  subst hr
  refine ⟨⟨[I x.id, I x.plan.prio, I x.plan.most, I x.plan.wait, I x.plan.tasks, v1, I x.state, v2], rfl, v1, v2, f1, f2, rfl, hok, own_Sl (h.get 0 rfl), own_Sl (h.get 1 rfl), rfl⟩, ?_⟩
  intro b hb
  simp only [List.mem_append] at hb
  rcases hb with hb | hb
  · exact own_lt (h.get 0 rfl) b hb
  · exact own_lt (h.get 1 rfl) b hb
theorem open_Yard {w0 W : World} {cs : List Value} {x : Yard} {fp : List Nat} {rs : List Res} (h : St w0 W (Res.own (.agg cs.toArray) x fp :: rs)) : ∃ (v1 v2 : Value) (f1 f2 : List Nat), cs = [I x.now, I x.seq, v1, v2] ∧ x.ok ∧ St w0 W (Res.own v1 x.shelf f1 :: Res.own v2 x.runs f2 :: rs) := by
  have ho := h.get 0 rfl
  obtain ⟨v1, v2, f1, f2, rfl, hok, h1, h2, rfl⟩ := own_C ho rfl
  have hw := ho.2
  have hn := h.nodup
  rw [List.flatMap_cons, List.nodup_append] at hn
  refine ⟨v1, v2, f1, f2, rfl, hok, St.trade (rs1 := [_]) (rs2 := [Res.own v1 x.shelf f1, Res.own v2 x.runs f2]) h (by simpa [Res.own] using hn.1) (by simp [Res.own]) ?_⟩
  intro r hr
  simp only [List.mem_cons, List.not_mem_nil, or_false] at hr
  rcases hr with rfl | rfl
  · exact ⟨h1.v, fun b hb => hw b (by simp [hb])⟩
  · exact ⟨h2.v, fun b hb => hw b (by simp [hb])⟩
theorem shut_Yard {w0 W : World} {x : Yard} {v1 v2 : Value} {f1 f2 : List Nat} {rs : List Res} (h : St w0 W (Res.own v1 x.shelf f1 :: Res.own v2 x.runs f2 :: rs)) (hok : x.ok) : St w0 W (Res.own (.agg #[I x.now, I x.seq, v1, v2]) x (f1 ++ (f2)) :: rs) := by
  have hn := h.sub (rs' := [Res.own v1 x.shelf f1, Res.own v2 x.runs f2]) (by simp)
  refine St.trade (rs1 := [Res.own v1 x.shelf f1, Res.own v2 x.runs f2]) (rs2 := [_]) h (by simpa [Res.own] using hn.nodup) (by simp [Res.own]) ?_
  intro r hr
  simp only [List.mem_singleton] at hr
  subst hr
  refine ⟨⟨[I x.now, I x.seq, v1, v2], rfl, v1, v2, f1, f2, rfl, hok, own_Sl (h.get 0 rfl), own_Sl (h.get 1 rfl), rfl⟩, ?_⟩
  intro b hb
  simp only [List.mem_append] at hb
  rcases hb with hb | hb
  · exact own_lt (h.get 0 rfl) b hb
  · exact own_lt (h.get 1 rfl) b hb
theorem open_Deed {w0 W : World} {cs : List Value} {x : Deed} {fp : List Nat} {rs : List Res} (h : St w0 W (Res.own (.agg cs.toArray) x fp :: rs)) : ∃ (v1 : Value) (f1 : List Nat), cs = [I x.kind, I x.run, I x.plan.prio, I x.plan.most, I x.plan.wait, I x.plan.tasks, v1, I x.task, I x.try_, I x.worker, I x.draw] ∧ x.ok ∧ St w0 W (Res.own v1 x.plan.edges f1 :: rs) := by
  have ho := h.get 0 rfl
  obtain ⟨v1, f1, rfl, hok, h1, rfl⟩ := own_C ho rfl
  have hw := ho.2
  have hn := h.nodup
  rw [List.flatMap_cons, List.nodup_append] at hn
  refine ⟨v1, fp, rfl, hok, St.trade (rs1 := [_]) (rs2 := [Res.own v1 x.plan.edges fp]) h (by simpa [Res.own] using hn.1) (by simp [Res.own]) ?_⟩
  intro r hr
  simp only [List.mem_cons, List.not_mem_nil, or_false] at hr
  rcases hr with rfl
  · exact ⟨h1.v, fun b hb => hw b (by simp [hb])⟩
theorem shut_Deed {w0 W : World} {x : Deed} {v1 : Value} {f1 : List Nat} {rs : List Res} (h : St w0 W (Res.own v1 x.plan.edges f1 :: rs)) (hok : x.ok) : St w0 W (Res.own (.agg #[I x.kind, I x.run, I x.plan.prio, I x.plan.most, I x.plan.wait, I x.plan.tasks, v1, I x.task, I x.try_, I x.worker, I x.draw]) x (f1) :: rs) := by
  have hn := h.sub (rs' := [Res.own v1 x.plan.edges f1]) (by simp)
  refine St.trade (rs1 := [Res.own v1 x.plan.edges f1]) (rs2 := [_]) h (by simpa [Res.own] using hn.nodup) (by simp [Res.own]) ?_
  intro r hr
  simp only [List.mem_singleton] at hr
  subst hr
  refine ⟨⟨[I x.kind, I x.run, I x.plan.prio, I x.plan.most, I x.plan.wait, I x.plan.tasks, v1, I x.task, I x.try_, I x.worker, I x.draw], rfl, v1, f1, rfl, hok, own_Sl (h.get 0 rfl), rfl⟩, ?_⟩
  intro b hb
  exact own_lt (h.get 0 rfl) b hb
theorem open_Note {w0 W : World} {cs : List Value} {x : Note} {fp : List Nat} {rs : List Res} (h : St w0 W (Res.own (.agg cs.toArray) x fp :: rs)) : ∃ (v1 : Value) (f1 : List Nat), cs = [I x.seq, I x.deed.kind, I x.deed.run, I x.deed.plan.prio, I x.deed.plan.most, I x.deed.plan.wait, I x.deed.plan.tasks, v1, I x.deed.task, I x.deed.try_, I x.deed.worker, I x.deed.draw] ∧ x.ok ∧ St w0 W (Res.own v1 x.deed.plan.edges f1 :: rs) := by
  have ho := h.get 0 rfl
  obtain ⟨v1, f1, rfl, hok, h1, rfl⟩ := own_C ho rfl
  have hw := ho.2
  have hn := h.nodup
  rw [List.flatMap_cons, List.nodup_append] at hn
  refine ⟨v1, fp, rfl, hok, St.trade (rs1 := [_]) (rs2 := [Res.own v1 x.deed.plan.edges fp]) h (by simpa [Res.own] using hn.1) (by simp [Res.own]) ?_⟩
  intro r hr
  simp only [List.mem_cons, List.not_mem_nil, or_false] at hr
  rcases hr with rfl
  · exact ⟨h1.v, fun b hb => hw b (by simp [hb])⟩
theorem shut_Note {w0 W : World} {x : Note} {v1 : Value} {f1 : List Nat} {rs : List Res} (h : St w0 W (Res.own v1 x.deed.plan.edges f1 :: rs)) (hok : x.ok) : St w0 W (Res.own (.agg #[I x.seq, I x.deed.kind, I x.deed.run, I x.deed.plan.prio, I x.deed.plan.most, I x.deed.plan.wait, I x.deed.plan.tasks, v1, I x.deed.task, I x.deed.try_, I x.deed.worker, I x.deed.draw]) x (f1) :: rs) := by
  have hn := h.sub (rs' := [Res.own v1 x.deed.plan.edges f1]) (by simp)
  refine St.trade (rs1 := [Res.own v1 x.deed.plan.edges f1]) (rs2 := [_]) h (by simpa [Res.own] using hn.nodup) (by simp [Res.own]) ?_
  intro r hr
  simp only [List.mem_singleton] at hr
  subst hr
  refine ⟨⟨[I x.seq, I x.deed.kind, I x.deed.run, I x.deed.plan.prio, I x.deed.plan.most, I x.deed.plan.wait, I x.deed.plan.tasks, v1, I x.deed.task, I x.deed.try_, I x.deed.worker, I x.deed.draw], rfl, v1, f1, rfl, hok, own_Sl (h.get 0 rfl), rfl⟩, ?_⟩
  intro b hb
  exact own_lt (h.get 0 rfl) b hb
theorem open_Disk {w0 W : World} {cs : List Value} {x : Disk} {fp : List Nat} {rs : List Res} (h : St w0 W (Res.own (.agg cs.toArray) x fp :: rs)) : ∃ (v1 : Value) (f1 : List Nat), cs = [v1] ∧ x.ok ∧ St w0 W (Res.own v1 x.files f1 :: rs) := by
  have ho := h.get 0 rfl
  obtain ⟨v1, f1, rfl, hok, h1, rfl⟩ := own_C ho rfl
  have hw := ho.2
  have hn := h.nodup
  rw [List.flatMap_cons, List.nodup_append] at hn
  refine ⟨v1, fp, rfl, hok, St.trade (rs1 := [_]) (rs2 := [Res.own v1 x.files fp]) h (by simpa [Res.own] using hn.1) (by simp [Res.own]) ?_⟩
  intro r hr
  simp only [List.mem_cons, List.not_mem_nil, or_false] at hr
  rcases hr with rfl
  · exact ⟨h1.v, fun b hb => hw b (by simp [hb])⟩
theorem shut_Disk {w0 W : World} {x : Disk} {v1 : Value} {f1 : List Nat} {rs : List Res} (h : St w0 W (Res.own v1 x.files f1 :: rs)) (hok : x.ok) : St w0 W (Res.own (.agg #[v1]) x (f1) :: rs) := by
  have hn := h.sub (rs' := [Res.own v1 x.files f1]) (by simp)
  refine St.trade (rs1 := [Res.own v1 x.files f1]) (rs2 := [_]) h (by simpa [Res.own] using hn.nodup) (by simp [Res.own]) ?_
  intro r hr
  simp only [List.mem_singleton] at hr
  subst hr
  refine ⟨⟨[v1], rfl, v1, f1, rfl, hok, own_Sl (h.get 0 rfl), rfl⟩, ?_⟩
  intro b hb
  exact own_lt (h.get 0 rfl) b hb
theorem open_Engine {w0 W : World} {cs : List Value} {x : Engine} {fp : List Nat} {rs : List Res} (h : St w0 W (Res.own (.agg cs.toArray) x fp :: rs)) : ∃ (v1 v2 v3 v4 : Value) (f1 f2 f3 f4 : List Nat), cs = [I x.yard.now, I x.yard.seq, v1, v2, v3, I x.next, I x.calls, v4, I x.state, .bool x.broken] ∧ x.ok ∧ St w0 W (Res.own v1 x.yard.shelf f1 :: Res.own v2 x.yard.runs f2 :: Res.own v3 x.disk.files f3 :: Res.own v4 x.waits f4 :: rs) := by
  have ho := h.get 0 rfl
  obtain ⟨v1, v2, v3, v4, f1, f2, f3, f4, rfl, hok, h1, h2, h3, h4, rfl⟩ := own_C ho rfl
  have hw := ho.2
  have hn := h.nodup
  rw [List.flatMap_cons, List.nodup_append] at hn
  refine ⟨v1, v2, v3, v4, f1, f2, f3, f4, rfl, hok, St.trade (rs1 := [_]) (rs2 := [Res.own v1 x.yard.shelf f1, Res.own v2 x.yard.runs f2, Res.own v3 x.disk.files f3, Res.own v4 x.waits f4]) h (by simpa [Res.own] using hn.1) (by simp [Res.own]) ?_⟩
  intro r hr
  simp only [List.mem_cons, List.not_mem_nil, or_false] at hr
  rcases hr with rfl | rfl | rfl | rfl
  · exact ⟨h1.v, fun b hb => hw b (by simp [hb])⟩
  · exact ⟨h2.v, fun b hb => hw b (by simp [hb])⟩
  · exact ⟨h3.v, fun b hb => hw b (by simp [hb])⟩
  · exact ⟨h4.v, fun b hb => hw b (by simp [hb])⟩
theorem shut_Engine {w0 W : World} {x : Engine} {v1 v2 v3 v4 : Value} {f1 f2 f3 f4 : List Nat} {rs : List Res} (h : St w0 W (Res.own v1 x.yard.shelf f1 :: Res.own v2 x.yard.runs f2 :: Res.own v3 x.disk.files f3 :: Res.own v4 x.waits f4 :: rs)) (hok : x.ok) : St w0 W (Res.own (.agg #[I x.yard.now, I x.yard.seq, v1, v2, v3, I x.next, I x.calls, v4, I x.state, .bool x.broken]) x (f1 ++ (f2 ++ (f3 ++ (f4)))) :: rs) := by
  have hn := h.sub (rs' := [Res.own v1 x.yard.shelf f1, Res.own v2 x.yard.runs f2, Res.own v3 x.disk.files f3, Res.own v4 x.waits f4]) (by simp)
  refine St.trade (rs1 := [Res.own v1 x.yard.shelf f1, Res.own v2 x.yard.runs f2, Res.own v3 x.disk.files f3, Res.own v4 x.waits f4]) (rs2 := [_]) h (by simpa [Res.own] using hn.nodup) (by simp [Res.own]) ?_
  intro r hr
  simp only [List.mem_singleton] at hr
  subst hr
  refine ⟨⟨[I x.yard.now, I x.yard.seq, v1, v2, v3, I x.next, I x.calls, v4, I x.state, .bool x.broken], rfl, v1, v2, v3, v4, f1, f2, f3, f4, rfl, hok, own_Sl (h.get 0 rfl), own_Sl (h.get 1 rfl), own_Sl (h.get 2 rfl), own_Sl (h.get 3 rfl), rfl⟩, ?_⟩
  intro b hb
  simp only [List.mem_append] at hb
  rcases hb with hb | hb | hb | hb
  · exact own_lt (h.get 0 rfl) b hb
  · exact own_lt (h.get 1 rfl) b hb
  · exact own_lt (h.get 2 rfl) b hb
  · exact own_lt (h.get 3 rfl) b hb
theorem open_World {w0 W : World} {cs : List Value} {x : WorldD} {fp : List Nat} {rs : List Res} (h : St w0 W (Res.own (.agg cs.toArray) x fp :: rs)) : ∃ (v1 v2 v3 v4 v5 v6 : Value) (f1 f2 f3 f4 f5 f6 : List Nat), cs = [I x.engine.yard.now, I x.engine.yard.seq, v1, v2, v3, I x.engine.next, I x.engine.calls, v4, I x.engine.state, .bool x.engine.broken, v5, v6, I x.told, I x.fell] ∧ x.ok ∧ St w0 W (Res.own v1 x.engine.yard.shelf f1 :: Res.own v2 x.engine.yard.runs f2 :: Res.own v3 x.engine.disk.files f3 :: Res.own v4 x.engine.waits f4 :: Res.own v5 x.deeds f5 :: Res.own v6 x.replies f6 :: rs) := by
  have ho := h.get 0 rfl
  obtain ⟨v1, v2, v3, v4, v5, v6, f1, f2, f3, f4, f5, f6, rfl, hok, h1, h2, h3, h4, h5, h6, rfl⟩ := own_C ho rfl
  have hw := ho.2
  have hn := h.nodup
  rw [List.flatMap_cons, List.nodup_append] at hn
  refine ⟨v1, v2, v3, v4, v5, v6, f1, f2, f3, f4, f5, f6, rfl, hok, St.trade (rs1 := [_]) (rs2 := [Res.own v1 x.engine.yard.shelf f1, Res.own v2 x.engine.yard.runs f2, Res.own v3 x.engine.disk.files f3, Res.own v4 x.engine.waits f4, Res.own v5 x.deeds f5, Res.own v6 x.replies f6]) h (by simpa [Res.own] using hn.1) (by simp [Res.own]) ?_⟩
  intro r hr
  simp only [List.mem_cons, List.not_mem_nil, or_false] at hr
  rcases hr with rfl | rfl | rfl | rfl | rfl | rfl
  · exact ⟨h1.v, fun b hb => hw b (by simp [hb])⟩
  · exact ⟨h2.v, fun b hb => hw b (by simp [hb])⟩
  · exact ⟨h3.v, fun b hb => hw b (by simp [hb])⟩
  · exact ⟨h4.v, fun b hb => hw b (by simp [hb])⟩
  · exact ⟨h5.v, fun b hb => hw b (by simp [hb])⟩
  · exact ⟨h6.v, fun b hb => hw b (by simp [hb])⟩
theorem shut_World {w0 W : World} {x : WorldD} {v1 v2 v3 v4 v5 v6 : Value} {f1 f2 f3 f4 f5 f6 : List Nat} {rs : List Res} (h : St w0 W (Res.own v1 x.engine.yard.shelf f1 :: Res.own v2 x.engine.yard.runs f2 :: Res.own v3 x.engine.disk.files f3 :: Res.own v4 x.engine.waits f4 :: Res.own v5 x.deeds f5 :: Res.own v6 x.replies f6 :: rs)) (hok : x.ok) : St w0 W (Res.own (.agg #[I x.engine.yard.now, I x.engine.yard.seq, v1, v2, v3, I x.engine.next, I x.engine.calls, v4, I x.engine.state, .bool x.engine.broken, v5, v6, I x.told, I x.fell]) x (f1 ++ (f2 ++ (f3 ++ (f4 ++ (f5 ++ (f6)))))) :: rs) := by
  have hn := h.sub (rs' := [Res.own v1 x.engine.yard.shelf f1, Res.own v2 x.engine.yard.runs f2, Res.own v3 x.engine.disk.files f3, Res.own v4 x.engine.waits f4, Res.own v5 x.deeds f5, Res.own v6 x.replies f6]) (by simp)
  refine St.trade (rs1 := [Res.own v1 x.engine.yard.shelf f1, Res.own v2 x.engine.yard.runs f2, Res.own v3 x.engine.disk.files f3, Res.own v4 x.engine.waits f4, Res.own v5 x.deeds f5, Res.own v6 x.replies f6]) (rs2 := [_]) h (by simpa [Res.own] using hn.nodup) (by simp [Res.own]) ?_
  intro r hr
  simp only [List.mem_singleton] at hr
  subst hr
  refine ⟨⟨[I x.engine.yard.now, I x.engine.yard.seq, v1, v2, v3, I x.engine.next, I x.engine.calls, v4, I x.engine.state, .bool x.engine.broken, v5, v6, I x.told, I x.fell], rfl, v1, v2, v3, v4, v5, v6, f1, f2, f3, f4, f5, f6, rfl, hok, own_Sl (h.get 0 rfl), own_Sl (h.get 1 rfl), own_Sl (h.get 2 rfl), own_Sl (h.get 3 rfl), own_Sl (h.get 4 rfl), own_Sl (h.get 5 rfl), rfl⟩, ?_⟩
  intro b hb
  simp only [List.mem_append] at hb
  rcases hb with hb | hb | hb | hb | hb | hb
  · exact own_lt (h.get 0 rfl) b hb
  · exact own_lt (h.get 1 rfl) b hb
  · exact own_lt (h.get 2 rfl) b hb
  · exact own_lt (h.get 3 rfl) b hb
  · exact own_lt (h.get 4 rfl) b hb
  · exact own_lt (h.get 5 rfl) b hb
theorem open_Act {w0 W : World} {cs : List Value} {x : ActD} {fp : List Nat} {rs : List Res} (h : St w0 W (Res.own (.agg cs.toArray) x fp :: rs)) : ∃ (v1 v2 : Value) (f1 f2 : List Nat), cs = [I x.kind, I x.deed.kind, I x.deed.run, I x.deed.plan.prio, I x.deed.plan.most, I x.deed.plan.wait, I x.deed.plan.tasks, v1, I x.deed.task, I x.deed.try_, I x.deed.worker, I x.deed.draw, I x.n, v2] ∧ x.ok ∧ St w0 W (Res.own v1 x.deed.plan.edges f1 :: Res.own v2 x.keep f2 :: rs) := by
  have ho := h.get 0 rfl
  obtain ⟨v1, v2, f1, f2, rfl, hok, h1, h2, rfl⟩ := own_C ho rfl
  have hw := ho.2
  have hn := h.nodup
  rw [List.flatMap_cons, List.nodup_append] at hn
  refine ⟨v1, v2, f1, f2, rfl, hok, St.trade (rs1 := [_]) (rs2 := [Res.own v1 x.deed.plan.edges f1, Res.own v2 x.keep f2]) h (by simpa [Res.own] using hn.1) (by simp [Res.own]) ?_⟩
  intro r hr
  simp only [List.mem_cons, List.not_mem_nil, or_false] at hr
  rcases hr with rfl | rfl
  · exact ⟨h1.v, fun b hb => hw b (by simp [hb])⟩
  · exact ⟨h2.v, fun b hb => hw b (by simp [hb])⟩
theorem shut_Act {w0 W : World} {x : ActD} {v1 v2 : Value} {f1 f2 : List Nat} {rs : List Res} (h : St w0 W (Res.own v1 x.deed.plan.edges f1 :: Res.own v2 x.keep f2 :: rs)) (hok : x.ok) : St w0 W (Res.own (.agg #[I x.kind, I x.deed.kind, I x.deed.run, I x.deed.plan.prio, I x.deed.plan.most, I x.deed.plan.wait, I x.deed.plan.tasks, v1, I x.deed.task, I x.deed.try_, I x.deed.worker, I x.deed.draw, I x.n, v2]) x (f1 ++ (f2)) :: rs) := by
  have hn := h.sub (rs' := [Res.own v1 x.deed.plan.edges f1, Res.own v2 x.keep f2]) (by simp)
  refine St.trade (rs1 := [Res.own v1 x.deed.plan.edges f1, Res.own v2 x.keep f2]) (rs2 := [_]) h (by simpa [Res.own] using hn.nodup) (by simp [Res.own]) ?_
  intro r hr
  simp only [List.mem_singleton] at hr
  subst hr
  refine ⟨⟨[I x.kind, I x.deed.kind, I x.deed.run, I x.deed.plan.prio, I x.deed.plan.most, I x.deed.plan.wait, I x.deed.plan.tasks, v1, I x.deed.task, I x.deed.try_, I x.deed.worker, I x.deed.draw, I x.n, v2], rfl, v1, v2, f1, f2, rfl, hok, own_Sl (h.get 0 rfl), own_Sl (h.get 1 rfl), rfl⟩, ?_⟩
  intro b hb
  simp only [List.mem_append] at hb
  rcases hb with hb | hb
  · exact own_lt (h.get 0 rfl) b hb
  · exact own_lt (h.get 1 rfl) b hb
theorem open_Span {w0 W : World} {cs : List Value} {x : Span} {fp : List Nat} {rs : List Res} (h : St w0 W (Res.own (.agg cs.toArray) x fp :: rs)) : ∃ (v1 : Value) (f1 : List Nat), cs = [I x.deed.kind, I x.deed.run, I x.deed.plan.prio, I x.deed.plan.most, I x.deed.plan.wait, I x.deed.plan.tasks, v1, I x.deed.task, I x.deed.try_, I x.deed.worker, I x.deed.draw, I x.begin_, I x.end_, I x.reply.code, I x.reply.run, I x.reply.task, I x.reply.try_] ∧ x.ok ∧ St w0 W (Res.own v1 x.deed.plan.edges f1 :: rs) := by
  have ho := h.get 0 rfl
  obtain ⟨v1, f1, rfl, hok, h1, rfl⟩ := own_C ho rfl
  have hw := ho.2
  have hn := h.nodup
  rw [List.flatMap_cons, List.nodup_append] at hn
  refine ⟨v1, fp, rfl, hok, St.trade (rs1 := [_]) (rs2 := [Res.own v1 x.deed.plan.edges fp]) h (by simpa [Res.own] using hn.1) (by simp [Res.own]) ?_⟩
  intro r hr
  simp only [List.mem_cons, List.not_mem_nil, or_false] at hr
  rcases hr with rfl
  · exact ⟨h1.v, fun b hb => hw b (by simp [hb])⟩
theorem shut_Span {w0 W : World} {x : Span} {v1 : Value} {f1 : List Nat} {rs : List Res} (h : St w0 W (Res.own v1 x.deed.plan.edges f1 :: rs)) (hok : x.ok) : St w0 W (Res.own (.agg #[I x.deed.kind, I x.deed.run, I x.deed.plan.prio, I x.deed.plan.most, I x.deed.plan.wait, I x.deed.plan.tasks, v1, I x.deed.task, I x.deed.try_, I x.deed.worker, I x.deed.draw, I x.begin_, I x.end_, I x.reply.code, I x.reply.run, I x.reply.task, I x.reply.try_]) x (f1) :: rs) := by
  have hn := h.sub (rs' := [Res.own v1 x.deed.plan.edges f1]) (by simp)
  refine St.trade (rs1 := [Res.own v1 x.deed.plan.edges f1]) (rs2 := [_]) h (by simpa [Res.own] using hn.nodup) (by simp [Res.own]) ?_
  intro r hr
  simp only [List.mem_singleton] at hr
  subst hr
  refine ⟨⟨[I x.deed.kind, I x.deed.run, I x.deed.plan.prio, I x.deed.plan.most, I x.deed.plan.wait, I x.deed.plan.tasks, v1, I x.deed.task, I x.deed.try_, I x.deed.worker, I x.deed.draw, I x.begin_, I x.end_, I x.reply.code, I x.reply.run, I x.reply.task, I x.reply.try_], rfl, v1, f1, rfl, hok, own_Sl (h.get 0 rfl), rfl⟩, ?_⟩
  intro b hb
  exact own_lt (h.get 0 rfl) b hb
theorem open_Crew {w0 W : World} {cs : List Value} {x : Crew} {fp : List Nat} {rs : List Res} (h : St w0 W (Res.own (.agg cs.toArray) x fp :: rs)) : ∃ (v1 v2 v3 : Value) (f1 f2 f3 : List Nat), cs = [I x.yard.now, I x.yard.seq, v1, v2, v3, I x.turns, I x.did] ∧ x.ok ∧ St w0 W (Res.own v1 x.yard.shelf f1 :: Res.own v2 x.yard.runs f2 :: Res.own v3 x.holds f3 :: rs) := by
  have ho := h.get 0 rfl
  obtain ⟨v1, v2, v3, f1, f2, f3, rfl, hok, h1, h2, h3, rfl⟩ := own_C ho rfl
  have hw := ho.2
  have hn := h.nodup
  rw [List.flatMap_cons, List.nodup_append] at hn
  refine ⟨v1, v2, v3, f1, f2, f3, rfl, hok, St.trade (rs1 := [_]) (rs2 := [Res.own v1 x.yard.shelf f1, Res.own v2 x.yard.runs f2, Res.own v3 x.holds f3]) h (by simpa [Res.own] using hn.1) (by simp [Res.own]) ?_⟩
  intro r hr
  simp only [List.mem_cons, List.not_mem_nil, or_false] at hr
  rcases hr with rfl | rfl | rfl
  · exact ⟨h1.v, fun b hb => hw b (by simp [hb])⟩
  · exact ⟨h2.v, fun b hb => hw b (by simp [hb])⟩
  · exact ⟨h3.v, fun b hb => hw b (by simp [hb])⟩
theorem shut_Crew {w0 W : World} {x : Crew} {v1 v2 v3 : Value} {f1 f2 f3 : List Nat} {rs : List Res} (h : St w0 W (Res.own v1 x.yard.shelf f1 :: Res.own v2 x.yard.runs f2 :: Res.own v3 x.holds f3 :: rs)) (hok : x.ok) : St w0 W (Res.own (.agg #[I x.yard.now, I x.yard.seq, v1, v2, v3, I x.turns, I x.did]) x (f1 ++ (f2 ++ (f3))) :: rs) := by
  have hn := h.sub (rs' := [Res.own v1 x.yard.shelf f1, Res.own v2 x.yard.runs f2, Res.own v3 x.holds f3]) (by simp)
  refine St.trade (rs1 := [Res.own v1 x.yard.shelf f1, Res.own v2 x.yard.runs f2, Res.own v3 x.holds f3]) (rs2 := [_]) h (by simpa [Res.own] using hn.nodup) (by simp [Res.own]) ?_
  intro r hr
  simp only [List.mem_singleton] at hr
  subst hr
  refine ⟨⟨[I x.yard.now, I x.yard.seq, v1, v2, v3, I x.turns, I x.did], rfl, v1, v2, v3, f1, f2, f3, rfl, hok, own_Sl (h.get 0 rfl), own_Sl (h.get 1 rfl), own_Sl (h.get 2 rfl), rfl⟩, ?_⟩
  intro b hb
  simp only [List.mem_append] at hb
  rcases hb with hb | hb | hb
  · exact own_lt (h.get 0 rfl) b hb
  · exact own_lt (h.get 1 rfl) b hb
  · exact own_lt (h.get 2 rfl) b hb
end Go.Proofs.Ytpkfgalpjaoebaa
