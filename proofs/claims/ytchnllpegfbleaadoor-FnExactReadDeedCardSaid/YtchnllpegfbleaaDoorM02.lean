/-
  Texts of this claim, laid behind one another: Tab, SxSlice, Lend, SxOne, SxLit, Poke, SxNew, SxStr, SxConv, DecT, SxMin, SxGen, SxApp, Ptr, Rn, AnyI.
-/
import Derived.Test.YtchnllpegfbleaaDoorM01
import Derived.Laws.OwnMore
import Derived.Laws.StructEq
import Derived.Laws.Strings
import Derived.Lib.SlBytesRow
import Derived.Laws.BytesString
import Derived.Lib.ItoaNum
import Derived.Lib.LaidTab
/-
  Closed facts on the program's types: sizes, places of fields, elements of slices. (Printed by a program of this project's: wip/gentab.py.)
-/
namespace Go.Proofs.YtchnllpegfbleaaDoor
set_option linter.unusedSimpArgs false
set_option linter.unusedVariables false
set_option maxRecDepth 100000
open Go.RowKit

instance : Agg Edge := ⟨true⟩
instance : Agg Plan := ⟨true⟩
instance : Agg Entry := ⟨true⟩
instance : Agg Task := ⟨true⟩
instance : Agg Run := ⟨true⟩
instance : Agg Yard := ⟨true⟩
instance : Agg Reply := ⟨true⟩
instance : Agg Deed := ⟨true⟩
instance : Agg Note := ⟨true⟩
instance : Agg Wait := ⟨true⟩
instance : Agg File := ⟨true⟩
instance : Agg Disk := ⟨true⟩
instance : Agg Engine := ⟨true⟩
instance : Agg WorldD := ⟨true⟩
instance : Agg ActD := ⟨true⟩
instance : Agg Hand := ⟨true⟩
instance : Agg Span := ⟨true⟩
instance : Agg Crew := ⟨true⟩
instance : Agg View := ⟨true⟩
theorem mix : Tryd.prog.follows .mixedOrders = true := by kernel_rfl
theorem ld_int : TyOk Tryd.prog 3 Int := ⟨by kernel_rfl, fun _ => rfl, _, Tryd.underlying3, rfl⟩
theorem ld_bool : TyOk Tryd.prog 4 Bool := ⟨by kernel_rfl, fun _ => rfl, _, Tryd.underlying4, rfl⟩
theorem ld_string : TyOk Tryd.prog 9 ByteArray := ⟨by kernel_rfl, fun _ => rfl, _, Tryd.underlying9, rfl⟩
theorem ld_IntS : TyOk Tryd.prog 73 (List Int) := ⟨by kernel_rfl, fun _ => rfl, _, Tryd.underlying73, rfl⟩
theorem sl_IntS : SlOk Tryd.prog 73 3 Int := ⟨Tryd.underlying73, by kernel_rfl⟩
theorem ap_IntS : ApOk Tryd.prog 73 3 Int 8 := apOk Tryd.underlying73 (by kernel_rfl) (by decide)
theorem ld_StringS : TyOk Tryd.prog 63 (List ByteArray) := ⟨by kernel_rfl, fun _ => rfl, _, Tryd.underlying63, rfl⟩
theorem sl_StringS : SlOk Tryd.prog 63 9 ByteArray := ⟨Tryd.underlying63, by kernel_rfl⟩
theorem ap_StringS : ApOk Tryd.prog 63 9 ByteArray 16 := apOk Tryd.underlying63 (by kernel_rfl) (by decide)
theorem ld_Edge : TyOk Tryd.prog 75 Edge := ⟨by kernel_rfl, (fun h => by cases h), _, Tryd.underlying75, _, rfl⟩
theorem zz_Edge : ZeroOk Tryd.prog 75 [I 0, I 0] := by unfold ZeroOk; kernel_rfl
theorem fa_Edge_0 : FieldOk Tryd.prog 75 0 0 := fieldOk Tryd.underlying75 rfl rfl (by kernel_rfl)
theorem fa_Edge_1 : FieldOk Tryd.prog 75 1 1 := fieldOk Tryd.underlying75 rfl rfl (by kernel_rfl)
theorem ld_Plan : TyOk Tryd.prog 38 Plan := ⟨by kernel_rfl, (fun h => by cases h), _, Tryd.underlying38, _, rfl⟩
theorem zz_Plan : ZeroOk Tryd.prog 38 [I 0, I 0, I 0, I 0, .slice none 0 0] := by unfold ZeroOk; kernel_rfl
theorem fa_Plan_0 : FieldOk Tryd.prog 38 0 0 := fieldOk Tryd.underlying38 rfl rfl (by kernel_rfl)
theorem fa_Plan_1 : FieldOk Tryd.prog 38 1 1 := fieldOk Tryd.underlying38 rfl rfl (by kernel_rfl)
theorem fa_Plan_2 : FieldOk Tryd.prog 38 2 2 := fieldOk Tryd.underlying38 rfl rfl (by kernel_rfl)
theorem fa_Plan_3 : FieldOk Tryd.prog 38 3 3 := fieldOk Tryd.underlying38 rfl rfl (by kernel_rfl)
theorem fa_Plan_4 : FieldOk Tryd.prog 38 4 4 := fieldOk Tryd.underlying38 rfl rfl (by kernel_rfl)
theorem ld_Task : TyOk Tryd.prog 66 Task := ⟨by kernel_rfl, (fun h => by cases h), _, Tryd.underlying66, _, rfl⟩
theorem zz_Task : ZeroOk Tryd.prog 66 [I 0, I 0, I 0, I 0] := by unfold ZeroOk; kernel_rfl
theorem fa_Task_0 : FieldOk Tryd.prog 66 0 0 := fieldOk Tryd.underlying66 rfl rfl (by kernel_rfl)
theorem fa_Task_1 : FieldOk Tryd.prog 66 1 1 := fieldOk Tryd.underlying66 rfl rfl (by kernel_rfl)
theorem fa_Task_2 : FieldOk Tryd.prog 66 2 2 := fieldOk Tryd.underlying66 rfl rfl (by kernel_rfl)
theorem fa_Task_3 : FieldOk Tryd.prog 66 3 3 := fieldOk Tryd.underlying66 rfl rfl (by kernel_rfl)
theorem ld_Run : TyOk Tryd.prog 41 Run := ⟨by kernel_rfl, (fun h => by cases h), _, Tryd.underlying41, _, rfl⟩
theorem zz_Run : ZeroOk Tryd.prog 41 [I 0, I 0, I 0, I 0, I 0, .slice none 0 0, I 0, .slice none 0 0] := by unfold ZeroOk; kernel_rfl
theorem fa_Run_0 : FieldOk Tryd.prog 41 0 0 := fieldOk Tryd.underlying41 rfl rfl (by kernel_rfl)
theorem fa_Run_1 : FieldOk Tryd.prog 41 1 1 := fieldOk Tryd.underlying41 rfl rfl (by kernel_rfl)
theorem fa_Run_2 : FieldOk Tryd.prog 41 2 6 := fieldOk Tryd.underlying41 rfl rfl (by kernel_rfl)
theorem fa_Run_3 : FieldOk Tryd.prog 41 3 7 := fieldOk Tryd.underlying41 rfl rfl (by kernel_rfl)
theorem ld_Reply : TyOk Tryd.prog 25 Reply := ⟨by kernel_rfl, (fun h => by cases h), _, Tryd.underlying25, _, rfl⟩
theorem zz_Reply : ZeroOk Tryd.prog 25 [I 0, I 0, I 0, I 0] := by unfold ZeroOk; kernel_rfl
theorem fa_Reply_0 : FieldOk Tryd.prog 25 0 0 := fieldOk Tryd.underlying25 rfl rfl (by kernel_rfl)
theorem fa_Reply_1 : FieldOk Tryd.prog 25 1 1 := fieldOk Tryd.underlying25 rfl rfl (by kernel_rfl)
theorem fa_Reply_2 : FieldOk Tryd.prog 25 2 2 := fieldOk Tryd.underlying25 rfl rfl (by kernel_rfl)
theorem fa_Reply_3 : FieldOk Tryd.prog 25 3 3 := fieldOk Tryd.underlying25 rfl rfl (by kernel_rfl)
theorem ld_Deed : TyOk Tryd.prog 50 Deed := ⟨by kernel_rfl, (fun h => by cases h), _, Tryd.underlying50, _, rfl⟩
theorem zz_Deed : ZeroOk Tryd.prog 50 [I 0, I 0, I 0, I 0, I 0, I 0, .slice none 0 0, I 0, I 0, I 0, I 0] := by unfold ZeroOk; kernel_rfl
theorem fa_Deed_0 : FieldOk Tryd.prog 50 0 0 := fieldOk Tryd.underlying50 rfl rfl (by kernel_rfl)
theorem fa_Deed_1 : FieldOk Tryd.prog 50 1 1 := fieldOk Tryd.underlying50 rfl rfl (by kernel_rfl)
theorem fa_Deed_2 : FieldOk Tryd.prog 50 2 2 := fieldOk Tryd.underlying50 rfl rfl (by kernel_rfl)
theorem fa_Deed_3 : FieldOk Tryd.prog 50 3 7 := fieldOk Tryd.underlying50 rfl rfl (by kernel_rfl)
theorem fa_Deed_4 : FieldOk Tryd.prog 50 4 8 := fieldOk Tryd.underlying50 rfl rfl (by kernel_rfl)
theorem fa_Deed_5 : FieldOk Tryd.prog 50 5 9 := fieldOk Tryd.underlying50 rfl rfl (by kernel_rfl)
theorem fa_Deed_6 : FieldOk Tryd.prog 50 6 10 := fieldOk Tryd.underlying50 rfl rfl (by kernel_rfl)
theorem ld_EdgeS : TyOk Tryd.prog 36 (List Edge) := ⟨by kernel_rfl, fun _ => rfl, _, Tryd.underlying36, rfl⟩
theorem sl_EdgeS : SlOk Tryd.prog 36 75 Edge := ⟨Tryd.underlying36, by kernel_rfl⟩
theorem ap_EdgeS : ApOk Tryd.prog 36 75 Edge 16 := apOk Tryd.underlying36 (by kernel_rfl) (by decide)
theorem ld_TaskS : TyOk Tryd.prog 39 (List Task) := ⟨by kernel_rfl, fun _ => rfl, _, Tryd.underlying39, rfl⟩
theorem sl_TaskS : SlOk Tryd.prog 39 66 Task := ⟨Tryd.underlying39, by kernel_rfl⟩
theorem ap_TaskS : ApOk Tryd.prog 39 66 Task 32 := apOk Tryd.underlying39 (by kernel_rfl) (by decide)
theorem ld_EdgeL : TyOk Tryd.prog 105 Edge := ⟨by kernel_rfl, (fun h => by cases h), _, Tryd.underlying105, _, rfl⟩
theorem zz_EdgeL : ZeroOk Tryd.prog 105 [I 0, I 0] := by unfold ZeroOk; kernel_rfl
theorem fa_EdgeL_0 : FieldOk Tryd.prog 105 0 0 := fieldOk Tryd.underlying105 rfl rfl (by kernel_rfl)
theorem fa_EdgeL_1 : FieldOk Tryd.prog 105 1 1 := fieldOk Tryd.underlying105 rfl rfl (by kernel_rfl)
theorem ld_PlanL : TyOk Tryd.prog 30 Plan := ⟨by kernel_rfl, (fun h => by cases h), _, Tryd.underlying30, _, rfl⟩
theorem zz_PlanL : ZeroOk Tryd.prog 30 [I 0, I 0, I 0, I 0, .slice none 0 0] := by unfold ZeroOk; kernel_rfl
theorem fa_PlanL_0 : FieldOk Tryd.prog 30 0 0 := fieldOk Tryd.underlying30 rfl rfl (by kernel_rfl)
theorem fa_PlanL_1 : FieldOk Tryd.prog 30 1 1 := fieldOk Tryd.underlying30 rfl rfl (by kernel_rfl)
theorem fa_PlanL_2 : FieldOk Tryd.prog 30 2 2 := fieldOk Tryd.underlying30 rfl rfl (by kernel_rfl)
theorem fa_PlanL_3 : FieldOk Tryd.prog 30 3 3 := fieldOk Tryd.underlying30 rfl rfl (by kernel_rfl)
theorem fa_PlanL_4 : FieldOk Tryd.prog 30 4 4 := fieldOk Tryd.underlying30 rfl rfl (by kernel_rfl)
theorem ld_TaskL : TyOk Tryd.prog 94 Task := ⟨by kernel_rfl, (fun h => by cases h), _, Tryd.underlying94, _, rfl⟩
theorem zz_TaskL : ZeroOk Tryd.prog 94 [I 0, I 0, I 0, I 0] := by unfold ZeroOk; kernel_rfl
theorem fa_TaskL_0 : FieldOk Tryd.prog 94 0 0 := fieldOk Tryd.underlying94 rfl rfl (by kernel_rfl)
theorem fa_TaskL_1 : FieldOk Tryd.prog 94 1 1 := fieldOk Tryd.underlying94 rfl rfl (by kernel_rfl)
theorem fa_TaskL_2 : FieldOk Tryd.prog 94 2 2 := fieldOk Tryd.underlying94 rfl rfl (by kernel_rfl)
theorem fa_TaskL_3 : FieldOk Tryd.prog 94 3 3 := fieldOk Tryd.underlying94 rfl rfl (by kernel_rfl)
theorem ld_RunL : TyOk Tryd.prog 33 Run := ⟨by kernel_rfl, (fun h => by cases h), _, Tryd.underlying33, _, rfl⟩
theorem zz_RunL : ZeroOk Tryd.prog 33 [I 0, I 0, I 0, I 0, I 0, .slice none 0 0, I 0, .slice none 0 0] := by unfold ZeroOk; kernel_rfl
theorem fa_RunL_0 : FieldOk Tryd.prog 33 0 0 := fieldOk Tryd.underlying33 rfl rfl (by kernel_rfl)
theorem fa_RunL_1 : FieldOk Tryd.prog 33 1 1 := fieldOk Tryd.underlying33 rfl rfl (by kernel_rfl)
theorem fa_RunL_2 : FieldOk Tryd.prog 33 2 6 := fieldOk Tryd.underlying33 rfl rfl (by kernel_rfl)
theorem fa_RunL_3 : FieldOk Tryd.prog 33 3 7 := fieldOk Tryd.underlying33 rfl rfl (by kernel_rfl)
theorem ld_ReplyL : TyOk Tryd.prog 23 Reply := ⟨by kernel_rfl, (fun h => by cases h), _, Tryd.underlying23, _, rfl⟩
theorem zz_ReplyL : ZeroOk Tryd.prog 23 [I 0, I 0, I 0, I 0] := by unfold ZeroOk; kernel_rfl
theorem fa_ReplyL_0 : FieldOk Tryd.prog 23 0 0 := fieldOk Tryd.underlying23 rfl rfl (by kernel_rfl)
theorem fa_ReplyL_1 : FieldOk Tryd.prog 23 1 1 := fieldOk Tryd.underlying23 rfl rfl (by kernel_rfl)
theorem fa_ReplyL_2 : FieldOk Tryd.prog 23 2 2 := fieldOk Tryd.underlying23 rfl rfl (by kernel_rfl)
theorem fa_ReplyL_3 : FieldOk Tryd.prog 23 3 3 := fieldOk Tryd.underlying23 rfl rfl (by kernel_rfl)
theorem ld_DeedL : TyOk Tryd.prog 46 Deed := ⟨by kernel_rfl, (fun h => by cases h), _, Tryd.underlying46, _, rfl⟩
theorem zz_DeedL : ZeroOk Tryd.prog 46 [I 0, I 0, I 0, I 0, I 0, I 0, .slice none 0 0, I 0, I 0, I 0, I 0] := by unfold ZeroOk; kernel_rfl
theorem fa_DeedL_0 : FieldOk Tryd.prog 46 0 0 := fieldOk Tryd.underlying46 rfl rfl (by kernel_rfl)
theorem fa_DeedL_1 : FieldOk Tryd.prog 46 1 1 := fieldOk Tryd.underlying46 rfl rfl (by kernel_rfl)
theorem fa_DeedL_2 : FieldOk Tryd.prog 46 2 2 := fieldOk Tryd.underlying46 rfl rfl (by kernel_rfl)
theorem fa_DeedL_3 : FieldOk Tryd.prog 46 3 7 := fieldOk Tryd.underlying46 rfl rfl (by kernel_rfl)
theorem fa_DeedL_4 : FieldOk Tryd.prog 46 4 8 := fieldOk Tryd.underlying46 rfl rfl (by kernel_rfl)
theorem fa_DeedL_5 : FieldOk Tryd.prog 46 5 9 := fieldOk Tryd.underlying46 rfl rfl (by kernel_rfl)
theorem fa_DeedL_6 : FieldOk Tryd.prog 46 6 10 := fieldOk Tryd.underlying46 rfl rfl (by kernel_rfl)
theorem ld_EdgeSL : TyOk Tryd.prog 28 (List Edge) := ⟨by kernel_rfl, fun _ => rfl, _, Tryd.underlying28, rfl⟩
theorem sl_EdgeSL : SlOk Tryd.prog 28 105 Edge := ⟨Tryd.underlying28, by kernel_rfl⟩
theorem ap_EdgeSL : ApOk Tryd.prog 28 105 Edge 16 := apOk Tryd.underlying28 (by kernel_rfl) (by decide)
theorem ld_TaskSL : TyOk Tryd.prog 31 (List Task) := ⟨by kernel_rfl, fun _ => rfl, _, Tryd.underlying31, rfl⟩
theorem sl_TaskSL : SlOk Tryd.prog 31 94 Task := ⟨Tryd.underlying31, by kernel_rfl⟩
theorem ap_TaskSL : ApOk Tryd.prog 31 94 Task 32 := apOk Tryd.underlying31 (by kernel_rfl) (by decide)

/-! ### Fields -/
theorem At.Edge_from_ {w : World} {b o : Nat} {x : Edge} {fp : List Nat} (h : At w b o x fp) : ∃ f1, At w b (o + 0) x.from_ f1 ∧ ∀ c ∈ f1, c ∈ fp := by
  obtain ⟨cs, hr, hc⟩ := h
  obtain ⟨rfl, rfl, hok⟩ := hc
  refine ⟨[], ⟨[I x.from_], fun j v hj => ?_, ⟨rfl, rfl, hok.1⟩⟩, by simp⟩
  have := hr (0 + j) v (by rcases j with _ | j <;> first | exact hj | simp at hj)
  rw [← this, Nat.add_assoc]
theorem At.Edge_to_ {w : World} {b o : Nat} {x : Edge} {fp : List Nat} (h : At w b o x fp) : ∃ f1, At w b (o + 1) x.to_ f1 ∧ ∀ c ∈ f1, c ∈ fp := by
  obtain ⟨cs, hr, hc⟩ := h
  obtain ⟨rfl, rfl, hok⟩ := hc
  refine ⟨[], ⟨[I x.to_], fun j v hj => ?_, ⟨rfl, rfl, hok.2⟩⟩, by simp⟩
  have := hr (1 + j) v (by rcases j with _ | j <;> first | exact hj | simp at hj)
  rw [← this, Nat.add_assoc]
theorem At.Plan_prio {w : World} {b o : Nat} {x : Plan} {fp : List Nat} (h : At w b o x fp) : ∃ f1, At w b (o + 0) x.prio f1 ∧ ∀ c ∈ f1, c ∈ fp := by
  obtain ⟨cs, hr, hc⟩ := h
  obtain ⟨v1, f1, rfl, hok, h1, hfp⟩ := hc
  refine ⟨[], ⟨[I x.prio], fun j v hj => ?_, ⟨rfl, rfl, hok.1⟩⟩, by simp⟩
  have := hr (0 + j) v (by rcases j with _ | j <;> first | exact hj | simp at hj)
  rw [← this, Nat.add_assoc]
theorem At.Plan_most {w : World} {b o : Nat} {x : Plan} {fp : List Nat} (h : At w b o x fp) : ∃ f1, At w b (o + 1) x.most f1 ∧ ∀ c ∈ f1, c ∈ fp := by
  obtain ⟨cs, hr, hc⟩ := h
  obtain ⟨v1, f1, rfl, hok, h1, hfp⟩ := hc
  refine ⟨[], ⟨[I x.most], fun j v hj => ?_, ⟨rfl, rfl, hok.2.1⟩⟩, by simp⟩
  have := hr (1 + j) v (by rcases j with _ | j <;> first | exact hj | simp at hj)
  rw [← this, Nat.add_assoc]
theorem At.Plan_wait {w : World} {b o : Nat} {x : Plan} {fp : List Nat} (h : At w b o x fp) : ∃ f1, At w b (o + 2) x.wait f1 ∧ ∀ c ∈ f1, c ∈ fp := by
  obtain ⟨cs, hr, hc⟩ := h
  obtain ⟨v1, f1, rfl, hok, h1, hfp⟩ := hc
  refine ⟨[], ⟨[I x.wait], fun j v hj => ?_, ⟨rfl, rfl, hok.2.2.1⟩⟩, by simp⟩
  have := hr (2 + j) v (by rcases j with _ | j <;> first | exact hj | simp at hj)
  rw [← this, Nat.add_assoc]
theorem At.Plan_tasks {w : World} {b o : Nat} {x : Plan} {fp : List Nat} (h : At w b o x fp) : ∃ f1, At w b (o + 3) x.tasks f1 ∧ ∀ c ∈ f1, c ∈ fp := by
  obtain ⟨cs, hr, hc⟩ := h
  obtain ⟨v1, f1, rfl, hok, h1, hfp⟩ := hc
  refine ⟨[], ⟨[I x.tasks], fun j v hj => ?_, ⟨rfl, rfl, hok.2.2.2⟩⟩, by simp⟩
  have := hr (3 + j) v (by rcases j with _ | j <;> first | exact hj | simp at hj)
  rw [← this, Nat.add_assoc]
theorem At.Plan_edges {w : World} {b o : Nat} {x : Plan} {fp : List Nat} (h : At w b o x fp) : ∃ f1, At w b (o + 4) x.edges f1 ∧ ∀ c ∈ f1, c ∈ fp := by
  obtain ⟨cs, hr, hc⟩ := h
  obtain ⟨v1, f1, rfl, hok, h1, hfp⟩ := hc
  refine ⟨f1, ⟨[v1], fun j v hj => ?_, ⟨v1, rfl, h1⟩⟩, fun c hc => by rw [hfp]; first | (simp [hc]; done) | grind⟩
  have := hr (4 + j) v (by rcases j with _ | j <;> first | exact hj | simp at hj)
  rw [← this, Nat.add_assoc]
theorem At.Entry_prio {w : World} {b o : Nat} {x : Entry} {fp : List Nat} (h : At w b o x fp) : ∃ f1, At w b (o + 0) x.prio f1 ∧ ∀ c ∈ f1, c ∈ fp := by
  obtain ⟨cs, hr, hc⟩ := h
  obtain ⟨rfl, rfl, hok⟩ := hc
  refine ⟨[], ⟨[I x.prio], fun j v hj => ?_, ⟨rfl, rfl, hok.1⟩⟩, by simp⟩
  have := hr (0 + j) v (by rcases j with _ | j <;> first | exact hj | simp at hj)
  rw [← this, Nat.add_assoc]
theorem At.Entry_seq {w : World} {b o : Nat} {x : Entry} {fp : List Nat} (h : At w b o x fp) : ∃ f1, At w b (o + 1) x.seq f1 ∧ ∀ c ∈ f1, c ∈ fp := by
  obtain ⟨cs, hr, hc⟩ := h
  obtain ⟨rfl, rfl, hok⟩ := hc
  refine ⟨[], ⟨[I x.seq], fun j v hj => ?_, ⟨rfl, rfl, hok.2.1⟩⟩, by simp⟩
  have := hr (1 + j) v (by rcases j with _ | j <;> first | exact hj | simp at hj)
  rw [← this, Nat.add_assoc]
theorem At.Entry_run {w : World} {b o : Nat} {x : Entry} {fp : List Nat} (h : At w b o x fp) : ∃ f1, At w b (o + 2) x.run f1 ∧ ∀ c ∈ f1, c ∈ fp := by
  obtain ⟨cs, hr, hc⟩ := h
  obtain ⟨rfl, rfl, hok⟩ := hc
  refine ⟨[], ⟨[I x.run], fun j v hj => ?_, ⟨rfl, rfl, hok.2.2.1⟩⟩, by simp⟩
  have := hr (2 + j) v (by rcases j with _ | j <;> first | exact hj | simp at hj)
  rw [← this, Nat.add_assoc]
theorem At.Entry_task {w : World} {b o : Nat} {x : Entry} {fp : List Nat} (h : At w b o x fp) : ∃ f1, At w b (o + 3) x.task f1 ∧ ∀ c ∈ f1, c ∈ fp := by
  obtain ⟨cs, hr, hc⟩ := h
  obtain ⟨rfl, rfl, hok⟩ := hc
  refine ⟨[], ⟨[I x.task], fun j v hj => ?_, ⟨rfl, rfl, hok.2.2.2⟩⟩, by simp⟩
  have := hr (3 + j) v (by rcases j with _ | j <;> first | exact hj | simp at hj)
  rw [← this, Nat.add_assoc]
theorem At.Task_state {w : World} {b o : Nat} {x : Task} {fp : List Nat} (h : At w b o x fp) : ∃ f1, At w b (o + 0) x.state f1 ∧ ∀ c ∈ f1, c ∈ fp := by
  obtain ⟨cs, hr, hc⟩ := h
  obtain ⟨rfl, rfl, hok⟩ := hc
  refine ⟨[], ⟨[I x.state], fun j v hj => ?_, ⟨rfl, rfl, hok.1⟩⟩, by simp⟩
  have := hr (0 + j) v (by rcases j with _ | j <;> first | exact hj | simp at hj)
  rw [← this, Nat.add_assoc]
theorem At.Task_need {w : World} {b o : Nat} {x : Task} {fp : List Nat} (h : At w b o x fp) : ∃ f1, At w b (o + 1) x.need f1 ∧ ∀ c ∈ f1, c ∈ fp := by
  obtain ⟨cs, hr, hc⟩ := h
  obtain ⟨rfl, rfl, hok⟩ := hc
  refine ⟨[], ⟨[I x.need], fun j v hj => ?_, ⟨rfl, rfl, hok.2.1⟩⟩, by simp⟩
  have := hr (1 + j) v (by rcases j with _ | j <;> first | exact hj | simp at hj)
  rw [← this, Nat.add_assoc]
theorem At.Task_try_ {w : World} {b o : Nat} {x : Task} {fp : List Nat} (h : At w b o x fp) : ∃ f1, At w b (o + 2) x.try_ f1 ∧ ∀ c ∈ f1, c ∈ fp := by
  obtain ⟨cs, hr, hc⟩ := h
  obtain ⟨rfl, rfl, hok⟩ := hc
  refine ⟨[], ⟨[I x.try_], fun j v hj => ?_, ⟨rfl, rfl, hok.2.2.1⟩⟩, by simp⟩
  have := hr (2 + j) v (by rcases j with _ | j <;> first | exact hj | simp at hj)
  rw [← this, Nat.add_assoc]
theorem At.Task_until_ {w : World} {b o : Nat} {x : Task} {fp : List Nat} (h : At w b o x fp) : ∃ f1, At w b (o + 3) x.until_ f1 ∧ ∀ c ∈ f1, c ∈ fp := by
  obtain ⟨cs, hr, hc⟩ := h
  obtain ⟨rfl, rfl, hok⟩ := hc
  refine ⟨[], ⟨[I x.until_], fun j v hj => ?_, ⟨rfl, rfl, hok.2.2.2⟩⟩, by simp⟩
  have := hr (3 + j) v (by rcases j with _ | j <;> first | exact hj | simp at hj)
  rw [← this, Nat.add_assoc]
theorem At.Run_id {w : World} {b o : Nat} {x : Run} {fp : List Nat} (h : At w b o x fp) : ∃ f1, At w b (o + 0) x.id f1 ∧ ∀ c ∈ f1, c ∈ fp := by
  obtain ⟨cs, hr, hc⟩ := h
  obtain ⟨v1, v2, f1, f2, rfl, hok, h1, h2, hfp⟩ := hc
  refine ⟨[], ⟨[I x.id], fun j v hj => ?_, ⟨rfl, rfl, hok.1⟩⟩, by simp⟩
  have := hr (0 + j) v (by rcases j with _ | j <;> first | exact hj | simp at hj)
  rw [← this, Nat.add_assoc]
theorem At.Run_plan {w : World} {b o : Nat} {x : Run} {fp : List Nat} (h : At w b o x fp) : ∃ f1, At w b (o + 1) x.plan f1 ∧ ∀ c ∈ f1, c ∈ fp := by
  obtain ⟨cs, hr, hc⟩ := h
  obtain ⟨v1, v2, f1, f2, rfl, hok, h1, h2, hfp⟩ := hc
  refine ⟨f1, ⟨[I x.plan.prio, I x.plan.most, I x.plan.wait, I x.plan.tasks, v1], fun j v hj => ?_, ⟨v1, f1, rfl, hok.2.1, h1, rfl⟩⟩, fun c hc => by rw [hfp]; first | (simp [hc]; done) | grind⟩
  have := hr (1 + j) v (by rcases j with _ | _ | _ | _ | _ | j <;> first | exact hj | simp at hj)
  rw [← this, Nat.add_assoc]
theorem At.Run_state {w : World} {b o : Nat} {x : Run} {fp : List Nat} (h : At w b o x fp) : ∃ f1, At w b (o + 6) x.state f1 ∧ ∀ c ∈ f1, c ∈ fp := by
  obtain ⟨cs, hr, hc⟩ := h
  obtain ⟨v1, v2, f1, f2, rfl, hok, h1, h2, hfp⟩ := hc
  refine ⟨[], ⟨[I x.state], fun j v hj => ?_, ⟨rfl, rfl, hok.2.2⟩⟩, by simp⟩
  have := hr (6 + j) v (by rcases j with _ | j <;> first | exact hj | simp at hj)
  rw [← this, Nat.add_assoc]
theorem At.Run_tasks {w : World} {b o : Nat} {x : Run} {fp : List Nat} (h : At w b o x fp) : ∃ f1, At w b (o + 7) x.tasks f1 ∧ ∀ c ∈ f1, c ∈ fp := by
  obtain ⟨cs, hr, hc⟩ := h
  obtain ⟨v1, v2, f1, f2, rfl, hok, h1, h2, hfp⟩ := hc
  refine ⟨f2, ⟨[v2], fun j v hj => ?_, ⟨v2, rfl, h2⟩⟩, fun c hc => by rw [hfp]; first | (simp [hc]; done) | grind⟩
  have := hr (7 + j) v (by rcases j with _ | j <;> first | exact hj | simp at hj)
  rw [← this, Nat.add_assoc]
theorem At.Yard_now {w : World} {b o : Nat} {x : Yard} {fp : List Nat} (h : At w b o x fp) : ∃ f1, At w b (o + 0) x.now f1 ∧ ∀ c ∈ f1, c ∈ fp := by
  obtain ⟨cs, hr, hc⟩ := h
  obtain ⟨v1, v2, f1, f2, rfl, hok, h1, h2, hfp⟩ := hc
  refine ⟨[], ⟨[I x.now], fun j v hj => ?_, ⟨rfl, rfl, hok.1⟩⟩, by simp⟩
  have := hr (0 + j) v (by rcases j with _ | j <;> first | exact hj | simp at hj)
  rw [← this, Nat.add_assoc]
theorem At.Yard_seq {w : World} {b o : Nat} {x : Yard} {fp : List Nat} (h : At w b o x fp) : ∃ f1, At w b (o + 1) x.seq f1 ∧ ∀ c ∈ f1, c ∈ fp := by
  obtain ⟨cs, hr, hc⟩ := h
  obtain ⟨v1, v2, f1, f2, rfl, hok, h1, h2, hfp⟩ := hc
  refine ⟨[], ⟨[I x.seq], fun j v hj => ?_, ⟨rfl, rfl, hok.2⟩⟩, by simp⟩
  have := hr (1 + j) v (by rcases j with _ | j <;> first | exact hj | simp at hj)
  rw [← this, Nat.add_assoc]
theorem At.Yard_shelf {w : World} {b o : Nat} {x : Yard} {fp : List Nat} (h : At w b o x fp) : ∃ f1, At w b (o + 2) x.shelf f1 ∧ ∀ c ∈ f1, c ∈ fp := by
  obtain ⟨cs, hr, hc⟩ := h
  obtain ⟨v1, v2, f1, f2, rfl, hok, h1, h2, hfp⟩ := hc
  refine ⟨f1, ⟨[v1], fun j v hj => ?_, ⟨v1, rfl, h1⟩⟩, fun c hc => by rw [hfp]; first | (simp [hc]; done) | grind⟩
  have := hr (2 + j) v (by rcases j with _ | j <;> first | exact hj | simp at hj)
  rw [← this, Nat.add_assoc]
theorem At.Yard_runs {w : World} {b o : Nat} {x : Yard} {fp : List Nat} (h : At w b o x fp) : ∃ f1, At w b (o + 3) x.runs f1 ∧ ∀ c ∈ f1, c ∈ fp := by
  obtain ⟨cs, hr, hc⟩ := h
  obtain ⟨v1, v2, f1, f2, rfl, hok, h1, h2, hfp⟩ := hc
  refine ⟨f2, ⟨[v2], fun j v hj => ?_, ⟨v2, rfl, h2⟩⟩, fun c hc => by rw [hfp]; first | (simp [hc]; done) | grind⟩
  have := hr (3 + j) v (by rcases j with _ | j <;> first | exact hj | simp at hj)
  rw [← this, Nat.add_assoc]
theorem At.Reply_code {w : World} {b o : Nat} {x : Reply} {fp : List Nat} (h : At w b o x fp) : ∃ f1, At w b (o + 0) x.code f1 ∧ ∀ c ∈ f1, c ∈ fp := by
  obtain ⟨cs, hr, hc⟩ := h
  obtain ⟨rfl, rfl, hok⟩ := hc
  refine ⟨[], ⟨[I x.code], fun j v hj => ?_, ⟨rfl, rfl, hok.1⟩⟩, by simp⟩
  have := hr (0 + j) v (by rcases j with _ | j <;> first | exact hj | simp at hj)
  rw [← this, Nat.add_assoc]
theorem At.Reply_run {w : World} {b o : Nat} {x : Reply} {fp : List Nat} (h : At w b o x fp) : ∃ f1, At w b (o + 1) x.run f1 ∧ ∀ c ∈ f1, c ∈ fp := by
  obtain ⟨cs, hr, hc⟩ := h
  obtain ⟨rfl, rfl, hok⟩ := hc
  refine ⟨[], ⟨[I x.run], fun j v hj => ?_, ⟨rfl, rfl, hok.2.1⟩⟩, by simp⟩
  have := hr (1 + j) v (by rcases j with _ | j <;> first | exact hj | simp at hj)
  rw [← this, Nat.add_assoc]
theorem At.Reply_task {w : World} {b o : Nat} {x : Reply} {fp : List Nat} (h : At w b o x fp) : ∃ f1, At w b (o + 2) x.task f1 ∧ ∀ c ∈ f1, c ∈ fp := by
  obtain ⟨cs, hr, hc⟩ := h
  obtain ⟨rfl, rfl, hok⟩ := hc
  refine ⟨[], ⟨[I x.task], fun j v hj => ?_, ⟨rfl, rfl, hok.2.2.1⟩⟩, by simp⟩
  have := hr (2 + j) v (by rcases j with _ | j <;> first | exact hj | simp at hj)
  rw [← this, Nat.add_assoc]
theorem At.Reply_try_ {w : World} {b o : Nat} {x : Reply} {fp : List Nat} (h : At w b o x fp) : ∃ f1, At w b (o + 3) x.try_ f1 ∧ ∀ c ∈ f1, c ∈ fp := by
  obtain ⟨cs, hr, hc⟩ := h
  obtain ⟨rfl, rfl, hok⟩ := hc
  refine ⟨[], ⟨[I x.try_], fun j v hj => ?_, ⟨rfl, rfl, hok.2.2.2⟩⟩, by simp⟩
  have := hr (3 + j) v (by rcases j with _ | j <;> first | exact hj | simp at hj)
  rw [← this, Nat.add_assoc]
theorem At.Deed_kind {w : World} {b o : Nat} {x : Deed} {fp : List Nat} (h : At w b o x fp) : ∃ f1, At w b (o + 0) x.kind f1 ∧ ∀ c ∈ f1, c ∈ fp := by
  obtain ⟨cs, hr, hc⟩ := h
  obtain ⟨v1, f1, rfl, hok, h1, hfp⟩ := hc
  refine ⟨[], ⟨[I x.kind], fun j v hj => ?_, ⟨rfl, rfl, hok.1⟩⟩, by simp⟩
  have := hr (0 + j) v (by rcases j with _ | j <;> first | exact hj | simp at hj)
  rw [← this, Nat.add_assoc]
theorem At.Deed_run {w : World} {b o : Nat} {x : Deed} {fp : List Nat} (h : At w b o x fp) : ∃ f1, At w b (o + 1) x.run f1 ∧ ∀ c ∈ f1, c ∈ fp := by
  obtain ⟨cs, hr, hc⟩ := h
  obtain ⟨v1, f1, rfl, hok, h1, hfp⟩ := hc
  refine ⟨[], ⟨[I x.run], fun j v hj => ?_, ⟨rfl, rfl, hok.2.1⟩⟩, by simp⟩
  have := hr (1 + j) v (by rcases j with _ | j <;> first | exact hj | simp at hj)
  rw [← this, Nat.add_assoc]
theorem At.Deed_plan {w : World} {b o : Nat} {x : Deed} {fp : List Nat} (h : At w b o x fp) : ∃ f1, At w b (o + 2) x.plan f1 ∧ ∀ c ∈ f1, c ∈ fp := by
  obtain ⟨cs, hr, hc⟩ := h
  obtain ⟨v1, f1, rfl, hok, h1, hfp⟩ := hc
  refine ⟨f1, ⟨[I x.plan.prio, I x.plan.most, I x.plan.wait, I x.plan.tasks, v1], fun j v hj => ?_, ⟨v1, f1, rfl, hok.2.2.1, h1, rfl⟩⟩, fun c hc => by rw [hfp]; first | (simp [hc]; done) | grind⟩
  have := hr (2 + j) v (by rcases j with _ | _ | _ | _ | _ | j <;> first | exact hj | simp at hj)
  rw [← this, Nat.add_assoc]
theorem At.Deed_task {w : World} {b o : Nat} {x : Deed} {fp : List Nat} (h : At w b o x fp) : ∃ f1, At w b (o + 7) x.task f1 ∧ ∀ c ∈ f1, c ∈ fp := by
  obtain ⟨cs, hr, hc⟩ := h
  obtain ⟨v1, f1, rfl, hok, h1, hfp⟩ := hc
  refine ⟨[], ⟨[I x.task], fun j v hj => ?_, ⟨rfl, rfl, hok.2.2.2.1⟩⟩, by simp⟩
  have := hr (7 + j) v (by rcases j with _ | j <;> first | exact hj | simp at hj)
  rw [← this, Nat.add_assoc]
theorem At.Deed_try_ {w : World} {b o : Nat} {x : Deed} {fp : List Nat} (h : At w b o x fp) : ∃ f1, At w b (o + 8) x.try_ f1 ∧ ∀ c ∈ f1, c ∈ fp := by
  obtain ⟨cs, hr, hc⟩ := h
  obtain ⟨v1, f1, rfl, hok, h1, hfp⟩ := hc
  refine ⟨[], ⟨[I x.try_], fun j v hj => ?_, ⟨rfl, rfl, hok.2.2.2.2.1⟩⟩, by simp⟩
  have := hr (8 + j) v (by rcases j with _ | j <;> first | exact hj | simp at hj)
  rw [← this, Nat.add_assoc]
theorem At.Deed_worker {w : World} {b o : Nat} {x : Deed} {fp : List Nat} (h : At w b o x fp) : ∃ f1, At w b (o + 9) x.worker f1 ∧ ∀ c ∈ f1, c ∈ fp := by
  obtain ⟨cs, hr, hc⟩ := h
  obtain ⟨v1, f1, rfl, hok, h1, hfp⟩ := hc
  refine ⟨[], ⟨[I x.worker], fun j v hj => ?_, ⟨rfl, rfl, hok.2.2.2.2.2.1⟩⟩, by simp⟩
  have := hr (9 + j) v (by rcases j with _ | j <;> first | exact hj | simp at hj)
  rw [← this, Nat.add_assoc]
theorem At.Deed_draw {w : World} {b o : Nat} {x : Deed} {fp : List Nat} (h : At w b o x fp) : ∃ f1, At w b (o + 10) x.draw f1 ∧ ∀ c ∈ f1, c ∈ fp := by
  obtain ⟨cs, hr, hc⟩ := h
  obtain ⟨v1, f1, rfl, hok, h1, hfp⟩ := hc
  refine ⟨[], ⟨[I x.draw], fun j v hj => ?_, ⟨rfl, rfl, hok.2.2.2.2.2.2⟩⟩, by simp⟩
  have := hr (10 + j) v (by rcases j with _ | j <;> first | exact hj | simp at hj)
  rw [← this, Nat.add_assoc]
theorem At.Note_seq {w : World} {b o : Nat} {x : Note} {fp : List Nat} (h : At w b o x fp) : ∃ f1, At w b (o + 0) x.seq f1 ∧ ∀ c ∈ f1, c ∈ fp := by
  obtain ⟨cs, hr, hc⟩ := h
  obtain ⟨v1, f1, rfl, hok, h1, hfp⟩ := hc
  refine ⟨[], ⟨[I x.seq], fun j v hj => ?_, ⟨rfl, rfl, hok.1⟩⟩, by simp⟩
  have := hr (0 + j) v (by rcases j with _ | j <;> first | exact hj | simp at hj)
  rw [← this, Nat.add_assoc]
theorem At.Note_deed {w : World} {b o : Nat} {x : Note} {fp : List Nat} (h : At w b o x fp) : ∃ f1, At w b (o + 1) x.deed f1 ∧ ∀ c ∈ f1, c ∈ fp := by
  obtain ⟨cs, hr, hc⟩ := h
  obtain ⟨v1, f1, rfl, hok, h1, hfp⟩ := hc
  refine ⟨f1, ⟨[I x.deed.kind, I x.deed.run, I x.deed.plan.prio, I x.deed.plan.most, I x.deed.plan.wait, I x.deed.plan.tasks, v1, I x.deed.task, I x.deed.try_, I x.deed.worker, I x.deed.draw], fun j v hj => ?_, ⟨v1, f1, rfl, hok.2, h1, rfl⟩⟩, fun c hc => by rw [hfp]; first | (simp [hc]; done) | grind⟩
  have := hr (1 + j) v (by rcases j with _ | _ | _ | _ | _ | _ | _ | _ | _ | _ | _ | j <;> first | exact hj | simp at hj)
  rw [← this, Nat.add_assoc]
theorem At.Wait_call {w : World} {b o : Nat} {x : Wait} {fp : List Nat} (h : At w b o x fp) : ∃ f1, At w b (o + 0) x.call f1 ∧ ∀ c ∈ f1, c ∈ fp := by
  obtain ⟨cs, hr, hc⟩ := h
  obtain ⟨rfl, rfl, hok⟩ := hc
  refine ⟨[], ⟨[I x.call], fun j v hj => ?_, ⟨rfl, rfl, hok.1⟩⟩, by simp⟩
  have := hr (0 + j) v (by rcases j with _ | j <;> first | exact hj | simp at hj)
  rw [← this, Nat.add_assoc]
theorem At.Wait_reply {w : World} {b o : Nat} {x : Wait} {fp : List Nat} (h : At w b o x fp) : ∃ f1, At w b (o + 1) x.reply f1 ∧ ∀ c ∈ f1, c ∈ fp := by
  obtain ⟨cs, hr, hc⟩ := h
  obtain ⟨rfl, rfl, hok⟩ := hc
  refine ⟨[], ⟨[I x.reply.code, I x.reply.run, I x.reply.task, I x.reply.try_], fun j v hj => ?_, ⟨rfl, rfl, hok.2⟩⟩, by simp⟩
  have := hr (1 + j) v (by rcases j with _ | _ | _ | _ | j <;> first | exact hj | simp at hj)
  rw [← this, Nat.add_assoc]
theorem At.File_name {w : World} {b o : Nat} {x : File} {fp : List Nat} (h : At w b o x fp) : ∃ f1, At w b (o + 0) x.name f1 ∧ ∀ c ∈ f1, c ∈ fp := by
  obtain ⟨cs, hr, hc⟩ := h
  obtain ⟨rfl, rfl, hok⟩ := hc
  refine ⟨[], ⟨[.string x.name], fun j v hj => ?_, ⟨rfl, rfl, hok.1⟩⟩, by simp⟩
  have := hr (0 + j) v (by rcases j with _ | j <;> first | exact hj | simp at hj)
  rw [← this, Nat.add_assoc]
theorem At.File_data {w : World} {b o : Nat} {x : File} {fp : List Nat} (h : At w b o x fp) : ∃ f1, At w b (o + 1) x.data f1 ∧ ∀ c ∈ f1, c ∈ fp := by
  obtain ⟨cs, hr, hc⟩ := h
  obtain ⟨rfl, rfl, hok⟩ := hc
  refine ⟨[], ⟨[.string x.data], fun j v hj => ?_, ⟨rfl, rfl, hok.2.1⟩⟩, by simp⟩
  have := hr (1 + j) v (by rcases j with _ | j <;> first | exact hj | simp at hj)
  rw [← this, Nat.add_assoc]
theorem At.File_safe {w : World} {b o : Nat} {x : File} {fp : List Nat} (h : At w b o x fp) : ∃ f1, At w b (o + 2) x.safe f1 ∧ ∀ c ∈ f1, c ∈ fp := by
  obtain ⟨cs, hr, hc⟩ := h
  obtain ⟨rfl, rfl, hok⟩ := hc
  refine ⟨[], ⟨[I x.safe], fun j v hj => ?_, ⟨rfl, rfl, hok.2.2⟩⟩, by simp⟩
  have := hr (2 + j) v (by rcases j with _ | j <;> first | exact hj | simp at hj)
  rw [← this, Nat.add_assoc]
theorem At.Disk_files {w : World} {b o : Nat} {x : Disk} {fp : List Nat} (h : At w b o x fp) : ∃ f1, At w b (o + 0) x.files f1 ∧ ∀ c ∈ f1, c ∈ fp := by
  obtain ⟨cs, hr, hc⟩ := h
  obtain ⟨v1, f1, rfl, hok, h1, hfp⟩ := hc
  refine ⟨f1, ⟨[v1], fun j v hj => ?_, ⟨v1, rfl, h1⟩⟩, fun c hc => by rw [hfp]; first | (simp [hc]; done) | grind⟩
  have := hr (0 + j) v (by rcases j with _ | j <;> first | exact hj | simp at hj)
  rw [← this, Nat.add_assoc]
theorem At.Engine_yard {w : World} {b o : Nat} {x : Engine} {fp : List Nat} (h : At w b o x fp) : ∃ f1, At w b (o + 0) x.yard f1 ∧ ∀ c ∈ f1, c ∈ fp := by
  obtain ⟨cs, hr, hc⟩ := h
  obtain ⟨v1, v2, v3, v4, f1, f2, f3, f4, rfl, hok, h1, h2, h3, h4, hfp⟩ := hc
  refine ⟨f1 ++ (f2), ⟨[I x.yard.now, I x.yard.seq, v1, v2], fun j v hj => ?_, ⟨v1, v2, f1, f2, rfl, hok.1, h1, h2, rfl⟩⟩, fun c hc => by rw [hfp]; first | (simp [hc]; done) | grind⟩
  have := hr (0 + j) v (by rcases j with _ | _ | _ | _ | j <;> first | exact hj | simp at hj)
  rw [← this, Nat.add_assoc]
theorem At.Engine_disk {w : World} {b o : Nat} {x : Engine} {fp : List Nat} (h : At w b o x fp) : ∃ f1, At w b (o + 4) x.disk f1 ∧ ∀ c ∈ f1, c ∈ fp := by
  obtain ⟨cs, hr, hc⟩ := h
  obtain ⟨v1, v2, v3, v4, f1, f2, f3, f4, rfl, hok, h1, h2, h3, h4, hfp⟩ := hc
  refine ⟨f3, ⟨[v3], fun j v hj => ?_, ⟨v3, f3, rfl, trivial, h3, rfl⟩⟩, fun c hc => by rw [hfp]; first | (simp [hc]; done) | grind⟩
  have := hr (4 + j) v (by rcases j with _ | j <;> first | exact hj | simp at hj)
  rw [← this, Nat.add_assoc]
theorem At.Engine_next {w : World} {b o : Nat} {x : Engine} {fp : List Nat} (h : At w b o x fp) : ∃ f1, At w b (o + 5) x.next f1 ∧ ∀ c ∈ f1, c ∈ fp := by
  obtain ⟨cs, hr, hc⟩ := h
  obtain ⟨v1, v2, v3, v4, f1, f2, f3, f4, rfl, hok, h1, h2, h3, h4, hfp⟩ := hc
  refine ⟨[], ⟨[I x.next], fun j v hj => ?_, ⟨rfl, rfl, hok.2.1⟩⟩, by simp⟩
  have := hr (5 + j) v (by rcases j with _ | j <;> first | exact hj | simp at hj)
  rw [← this, Nat.add_assoc]
theorem At.Engine_calls {w : World} {b o : Nat} {x : Engine} {fp : List Nat} (h : At w b o x fp) : ∃ f1, At w b (o + 6) x.calls f1 ∧ ∀ c ∈ f1, c ∈ fp := by
  obtain ⟨cs, hr, hc⟩ := h
  obtain ⟨v1, v2, v3, v4, f1, f2, f3, f4, rfl, hok, h1, h2, h3, h4, hfp⟩ := hc
  refine ⟨[], ⟨[I x.calls], fun j v hj => ?_, ⟨rfl, rfl, hok.2.2.1⟩⟩, by simp⟩
  have := hr (6 + j) v (by rcases j with _ | j <;> first | exact hj | simp at hj)
  rw [← this, Nat.add_assoc]
theorem At.Engine_waits {w : World} {b o : Nat} {x : Engine} {fp : List Nat} (h : At w b o x fp) : ∃ f1, At w b (o + 7) x.waits f1 ∧ ∀ c ∈ f1, c ∈ fp := by
  obtain ⟨cs, hr, hc⟩ := h
  obtain ⟨v1, v2, v3, v4, f1, f2, f3, f4, rfl, hok, h1, h2, h3, h4, hfp⟩ := hc
  refine ⟨f4, ⟨[v4], fun j v hj => ?_, ⟨v4, rfl, h4⟩⟩, fun c hc => by rw [hfp]; first | (simp [hc]; done) | grind⟩
  have := hr (7 + j) v (by rcases j with _ | j <;> first | exact hj | simp at hj)
  rw [← this, Nat.add_assoc]
theorem At.Engine_state {w : World} {b o : Nat} {x : Engine} {fp : List Nat} (h : At w b o x fp) : ∃ f1, At w b (o + 8) x.state f1 ∧ ∀ c ∈ f1, c ∈ fp := by
  obtain ⟨cs, hr, hc⟩ := h
  obtain ⟨v1, v2, v3, v4, f1, f2, f3, f4, rfl, hok, h1, h2, h3, h4, hfp⟩ := hc
  refine ⟨[], ⟨[I x.state], fun j v hj => ?_, ⟨rfl, rfl, hok.2.2.2⟩⟩, by simp⟩
  have := hr (8 + j) v (by rcases j with _ | j <;> first | exact hj | simp at hj)
  rw [← this, Nat.add_assoc]
theorem At.Engine_broken {w : World} {b o : Nat} {x : Engine} {fp : List Nat} (h : At w b o x fp) : ∃ f1, At w b (o + 9) x.broken f1 ∧ ∀ c ∈ f1, c ∈ fp := by
  obtain ⟨cs, hr, hc⟩ := h
  obtain ⟨v1, v2, v3, v4, f1, f2, f3, f4, rfl, hok, h1, h2, h3, h4, hfp⟩ := hc
  refine ⟨[], ⟨[.bool x.broken], fun j v hj => ?_, ⟨rfl, rfl, trivial⟩⟩, by simp⟩
  have := hr (9 + j) v (by rcases j with _ | j <;> first | exact hj | simp at hj)
  rw [← this, Nat.add_assoc]
theorem At.World_engine {w : World} {b o : Nat} {x : WorldD} {fp : List Nat} (h : At w b o x fp) : ∃ f1, At w b (o + 0) x.engine f1 ∧ ∀ c ∈ f1, c ∈ fp := by
  obtain ⟨cs, hr, hc⟩ := h
  obtain ⟨v1, v2, v3, v4, v5, v6, f1, f2, f3, f4, f5, f6, rfl, hok, h1, h2, h3, h4, h5, h6, hfp⟩ := hc
  refine ⟨f1 ++ (f2 ++ (f3 ++ (f4))), ⟨[I x.engine.yard.now, I x.engine.yard.seq, v1, v2, v3, I x.engine.next, I x.engine.calls, v4, I x.engine.state, .bool x.engine.broken], fun j v hj => ?_, ⟨v1, v2, v3, v4, f1, f2, f3, f4, rfl, hok.1, h1, h2, h3, h4, rfl⟩⟩, fun c hc => by rw [hfp]; first | (simp [hc]; done) | grind⟩
  have := hr (0 + j) v (by rcases j with _ | _ | _ | _ | _ | _ | _ | _ | _ | _ | j <;> first | exact hj | simp at hj)
  rw [← this, Nat.add_assoc]
theorem At.World_deeds {w : World} {b o : Nat} {x : WorldD} {fp : List Nat} (h : At w b o x fp) : ∃ f1, At w b (o + 10) x.deeds f1 ∧ ∀ c ∈ f1, c ∈ fp := by
  obtain ⟨cs, hr, hc⟩ := h
  obtain ⟨v1, v2, v3, v4, v5, v6, f1, f2, f3, f4, f5, f6, rfl, hok, h1, h2, h3, h4, h5, h6, hfp⟩ := hc
  refine ⟨f5, ⟨[v5], fun j v hj => ?_, ⟨v5, rfl, h5⟩⟩, fun c hc => by rw [hfp]; first | (simp [hc]; done) | grind⟩
  have := hr (10 + j) v (by rcases j with _ | j <;> first | exact hj | simp at hj)
  rw [← this, Nat.add_assoc]
theorem At.World_replies {w : World} {b o : Nat} {x : WorldD} {fp : List Nat} (h : At w b o x fp) : ∃ f1, At w b (o + 11) x.replies f1 ∧ ∀ c ∈ f1, c ∈ fp := by
  obtain ⟨cs, hr, hc⟩ := h
  obtain ⟨v1, v2, v3, v4, v5, v6, f1, f2, f3, f4, f5, f6, rfl, hok, h1, h2, h3, h4, h5, h6, hfp⟩ := hc
  refine ⟨f6, ⟨[v6], fun j v hj => ?_, ⟨v6, rfl, h6⟩⟩, fun c hc => by rw [hfp]; first | (simp [hc]; done) | grind⟩
  have := hr (11 + j) v (by rcases j with _ | j <;> first | exact hj | simp at hj)
  rw [← this, Nat.add_assoc]
theorem At.World_told {w : World} {b o : Nat} {x : WorldD} {fp : List Nat} (h : At w b o x fp) : ∃ f1, At w b (o + 12) x.told f1 ∧ ∀ c ∈ f1, c ∈ fp := by
  obtain ⟨cs, hr, hc⟩ := h
  obtain ⟨v1, v2, v3, v4, v5, v6, f1, f2, f3, f4, f5, f6, rfl, hok, h1, h2, h3, h4, h5, h6, hfp⟩ := hc
  refine ⟨[], ⟨[I x.told], fun j v hj => ?_, ⟨rfl, rfl, hok.2.1⟩⟩, by simp⟩
  have := hr (12 + j) v (by rcases j with _ | j <;> first | exact hj | simp at hj)
  rw [← this, Nat.add_assoc]
theorem At.World_fell {w : World} {b o : Nat} {x : WorldD} {fp : List Nat} (h : At w b o x fp) : ∃ f1, At w b (o + 13) x.fell f1 ∧ ∀ c ∈ f1, c ∈ fp := by
  obtain ⟨cs, hr, hc⟩ := h
  obtain ⟨v1, v2, v3, v4, v5, v6, f1, f2, f3, f4, f5, f6, rfl, hok, h1, h2, h3, h4, h5, h6, hfp⟩ := hc
  refine ⟨[], ⟨[I x.fell], fun j v hj => ?_, ⟨rfl, rfl, hok.2.2⟩⟩, by simp⟩
  have := hr (13 + j) v (by rcases j with _ | j <;> first | exact hj | simp at hj)
  rw [← this, Nat.add_assoc]
theorem At.Act_kind {w : World} {b o : Nat} {x : ActD} {fp : List Nat} (h : At w b o x fp) : ∃ f1, At w b (o + 0) x.kind f1 ∧ ∀ c ∈ f1, c ∈ fp := by
  obtain ⟨cs, hr, hc⟩ := h
  obtain ⟨v1, v2, f1, f2, rfl, hok, h1, h2, hfp⟩ := hc
  refine ⟨[], ⟨[I x.kind], fun j v hj => ?_, ⟨rfl, rfl, hok.1⟩⟩, by simp⟩
  have := hr (0 + j) v (by rcases j with _ | j <;> first | exact hj | simp at hj)
  rw [← this, Nat.add_assoc]
theorem At.Act_deed {w : World} {b o : Nat} {x : ActD} {fp : List Nat} (h : At w b o x fp) : ∃ f1, At w b (o + 1) x.deed f1 ∧ ∀ c ∈ f1, c ∈ fp := by
  obtain ⟨cs, hr, hc⟩ := h
  obtain ⟨v1, v2, f1, f2, rfl, hok, h1, h2, hfp⟩ := hc
  refine ⟨f1, ⟨[I x.deed.kind, I x.deed.run, I x.deed.plan.prio, I x.deed.plan.most, I x.deed.plan.wait, I x.deed.plan.tasks, v1, I x.deed.task, I x.deed.try_, I x.deed.worker, I x.deed.draw], fun j v hj => ?_, ⟨v1, f1, rfl, hok.2.1, h1, rfl⟩⟩, fun c hc => by rw [hfp]; first | (simp [hc]; done) | grind⟩
  have := hr (1 + j) v (by rcases j with _ | _ | _ | _ | _ | _ | _ | _ | _ | _ | _ | j <;> first | exact hj | simp at hj)
  rw [← this, Nat.add_assoc]
theorem At.Act_n {w : World} {b o : Nat} {x : ActD} {fp : List Nat} (h : At w b o x fp) : ∃ f1, At w b (o + 12) x.n f1 ∧ ∀ c ∈ f1, c ∈ fp := by
  obtain ⟨cs, hr, hc⟩ := h
  obtain ⟨v1, v2, f1, f2, rfl, hok, h1, h2, hfp⟩ := hc
  refine ⟨[], ⟨[I x.n], fun j v hj => ?_, ⟨rfl, rfl, hok.2.2⟩⟩, by simp⟩
  have := hr (12 + j) v (by rcases j with _ | j <;> first | exact hj | simp at hj)
  rw [← this, Nat.add_assoc]
theorem At.Act_keep {w : World} {b o : Nat} {x : ActD} {fp : List Nat} (h : At w b o x fp) : ∃ f1, At w b (o + 13) x.keep f1 ∧ ∀ c ∈ f1, c ∈ fp := by
  obtain ⟨cs, hr, hc⟩ := h
  obtain ⟨v1, v2, f1, f2, rfl, hok, h1, h2, hfp⟩ := hc
  refine ⟨f2, ⟨[v2], fun j v hj => ?_, ⟨v2, rfl, h2⟩⟩, fun c hc => by rw [hfp]; first | (simp [hc]; done) | grind⟩
  have := hr (13 + j) v (by rcases j with _ | j <;> first | exact hj | simp at hj)
  rw [← this, Nat.add_assoc]
theorem At.Hand_run {w : World} {b o : Nat} {x : Hand} {fp : List Nat} (h : At w b o x fp) : ∃ f1, At w b (o + 0) x.run f1 ∧ ∀ c ∈ f1, c ∈ fp := by
  obtain ⟨cs, hr, hc⟩ := h
  obtain ⟨rfl, rfl, hok⟩ := hc
  refine ⟨[], ⟨[I x.run], fun j v hj => ?_, ⟨rfl, rfl, hok.1⟩⟩, by simp⟩
  have := hr (0 + j) v (by rcases j with _ | j <;> first | exact hj | simp at hj)
  rw [← this, Nat.add_assoc]
theorem At.Hand_task {w : World} {b o : Nat} {x : Hand} {fp : List Nat} (h : At w b o x fp) : ∃ f1, At w b (o + 1) x.task f1 ∧ ∀ c ∈ f1, c ∈ fp := by
  obtain ⟨cs, hr, hc⟩ := h
  obtain ⟨rfl, rfl, hok⟩ := hc
  refine ⟨[], ⟨[I x.task], fun j v hj => ?_, ⟨rfl, rfl, hok.2.1⟩⟩, by simp⟩
  have := hr (1 + j) v (by rcases j with _ | j <;> first | exact hj | simp at hj)
  rw [← this, Nat.add_assoc]
theorem At.Hand_try_ {w : World} {b o : Nat} {x : Hand} {fp : List Nat} (h : At w b o x fp) : ∃ f1, At w b (o + 2) x.try_ f1 ∧ ∀ c ∈ f1, c ∈ fp := by
  obtain ⟨cs, hr, hc⟩ := h
  obtain ⟨rfl, rfl, hok⟩ := hc
  refine ⟨[], ⟨[I x.try_], fun j v hj => ?_, ⟨rfl, rfl, hok.2.2.1⟩⟩, by simp⟩
  have := hr (2 + j) v (by rcases j with _ | j <;> first | exact hj | simp at hj)
  rw [← this, Nat.add_assoc]
theorem At.Hand_at_ {w : World} {b o : Nat} {x : Hand} {fp : List Nat} (h : At w b o x fp) : ∃ f1, At w b (o + 3) x.at_ f1 ∧ ∀ c ∈ f1, c ∈ fp := by
  obtain ⟨cs, hr, hc⟩ := h
  obtain ⟨rfl, rfl, hok⟩ := hc
  refine ⟨[], ⟨[I x.at_], fun j v hj => ?_, ⟨rfl, rfl, hok.2.2.2⟩⟩, by simp⟩
  have := hr (3 + j) v (by rcases j with _ | j <;> first | exact hj | simp at hj)
  rw [← this, Nat.add_assoc]
theorem At.Span_deed {w : World} {b o : Nat} {x : Span} {fp : List Nat} (h : At w b o x fp) : ∃ f1, At w b (o + 0) x.deed f1 ∧ ∀ c ∈ f1, c ∈ fp := by
  obtain ⟨cs, hr, hc⟩ := h
  obtain ⟨v1, f1, rfl, hok, h1, hfp⟩ := hc
  refine ⟨f1, ⟨[I x.deed.kind, I x.deed.run, I x.deed.plan.prio, I x.deed.plan.most, I x.deed.plan.wait, I x.deed.plan.tasks, v1, I x.deed.task, I x.deed.try_, I x.deed.worker, I x.deed.draw], fun j v hj => ?_, ⟨v1, f1, rfl, hok.1, h1, rfl⟩⟩, fun c hc => by rw [hfp]; first | (simp [hc]; done) | grind⟩
  have := hr (0 + j) v (by rcases j with _ | _ | _ | _ | _ | _ | _ | _ | _ | _ | _ | j <;> first | exact hj | simp at hj)
  rw [← this, Nat.add_assoc]
theorem At.Span_begin_ {w : World} {b o : Nat} {x : Span} {fp : List Nat} (h : At w b o x fp) : ∃ f1, At w b (o + 11) x.begin_ f1 ∧ ∀ c ∈ f1, c ∈ fp := by
  obtain ⟨cs, hr, hc⟩ := h
  obtain ⟨v1, f1, rfl, hok, h1, hfp⟩ := hc
  refine ⟨[], ⟨[I x.begin_], fun j v hj => ?_, ⟨rfl, rfl, hok.2.1⟩⟩, by simp⟩
  have := hr (11 + j) v (by rcases j with _ | j <;> first | exact hj | simp at hj)
  rw [← this, Nat.add_assoc]
theorem At.Span_end_ {w : World} {b o : Nat} {x : Span} {fp : List Nat} (h : At w b o x fp) : ∃ f1, At w b (o + 12) x.end_ f1 ∧ ∀ c ∈ f1, c ∈ fp := by
  obtain ⟨cs, hr, hc⟩ := h
  obtain ⟨v1, f1, rfl, hok, h1, hfp⟩ := hc
  refine ⟨[], ⟨[I x.end_], fun j v hj => ?_, ⟨rfl, rfl, hok.2.2.1⟩⟩, by simp⟩
  have := hr (12 + j) v (by rcases j with _ | j <;> first | exact hj | simp at hj)
  rw [← this, Nat.add_assoc]
theorem At.Span_reply {w : World} {b o : Nat} {x : Span} {fp : List Nat} (h : At w b o x fp) : ∃ f1, At w b (o + 13) x.reply f1 ∧ ∀ c ∈ f1, c ∈ fp := by
  obtain ⟨cs, hr, hc⟩ := h
  obtain ⟨v1, f1, rfl, hok, h1, hfp⟩ := hc
  refine ⟨[], ⟨[I x.reply.code, I x.reply.run, I x.reply.task, I x.reply.try_], fun j v hj => ?_, ⟨rfl, rfl, hok.2.2.2⟩⟩, by simp⟩
  have := hr (13 + j) v (by rcases j with _ | _ | _ | _ | j <;> first | exact hj | simp at hj)
  rw [← this, Nat.add_assoc]
theorem At.Crew_yard {w : World} {b o : Nat} {x : Crew} {fp : List Nat} (h : At w b o x fp) : ∃ f1, At w b (o + 0) x.yard f1 ∧ ∀ c ∈ f1, c ∈ fp := by
  obtain ⟨cs, hr, hc⟩ := h
  obtain ⟨v1, v2, v3, f1, f2, f3, rfl, hok, h1, h2, h3, hfp⟩ := hc
  refine ⟨f1 ++ (f2), ⟨[I x.yard.now, I x.yard.seq, v1, v2], fun j v hj => ?_, ⟨v1, v2, f1, f2, rfl, hok.1, h1, h2, rfl⟩⟩, fun c hc => by rw [hfp]; first | (simp [hc]; done) | grind⟩
  have := hr (0 + j) v (by rcases j with _ | _ | _ | _ | j <;> first | exact hj | simp at hj)
  rw [← this, Nat.add_assoc]
theorem At.Crew_holds {w : World} {b o : Nat} {x : Crew} {fp : List Nat} (h : At w b o x fp) : ∃ f1, At w b (o + 4) x.holds f1 ∧ ∀ c ∈ f1, c ∈ fp := by
  obtain ⟨cs, hr, hc⟩ := h
  obtain ⟨v1, v2, v3, f1, f2, f3, rfl, hok, h1, h2, h3, hfp⟩ := hc
  refine ⟨f3, ⟨[v3], fun j v hj => ?_, ⟨v3, rfl, h3⟩⟩, fun c hc => by rw [hfp]; first | (simp [hc]; done) | grind⟩
  have := hr (4 + j) v (by rcases j with _ | j <;> first | exact hj | simp at hj)
  rw [← this, Nat.add_assoc]
theorem At.Crew_turns {w : World} {b o : Nat} {x : Crew} {fp : List Nat} (h : At w b o x fp) : ∃ f1, At w b (o + 5) x.turns f1 ∧ ∀ c ∈ f1, c ∈ fp := by
  obtain ⟨cs, hr, hc⟩ := h
  obtain ⟨v1, v2, v3, f1, f2, f3, rfl, hok, h1, h2, h3, hfp⟩ := hc
  refine ⟨[], ⟨[I x.turns], fun j v hj => ?_, ⟨rfl, rfl, hok.2.1⟩⟩, by simp⟩
  have := hr (5 + j) v (by rcases j with _ | j <;> first | exact hj | simp at hj)
  rw [← this, Nat.add_assoc]
theorem At.Crew_did {w : World} {b o : Nat} {x : Crew} {fp : List Nat} (h : At w b o x fp) : ∃ f1, At w b (o + 6) x.did f1 ∧ ∀ c ∈ f1, c ∈ fp := by
  obtain ⟨cs, hr, hc⟩ := h
  obtain ⟨v1, v2, v3, f1, f2, f3, rfl, hok, h1, h2, h3, hfp⟩ := hc
  refine ⟨[], ⟨[I x.did], fun j v hj => ?_, ⟨rfl, rfl, hok.2.2⟩⟩, by simp⟩
  have := hr (6 + j) v (by rcases j with _ | j <;> first | exact hj | simp at hj)
  rw [← this, Nat.add_assoc]
theorem At.View_state {w : World} {b o : Nat} {x : View} {fp : List Nat} (h : At w b o x fp) : ∃ f1, At w b (o + 0) x.state f1 ∧ ∀ c ∈ f1, c ∈ fp := by
  obtain ⟨cs, hr, hc⟩ := h
  obtain ⟨rfl, rfl, hok⟩ := hc
  refine ⟨[], ⟨[I x.state], fun j v hj => ?_, ⟨rfl, rfl, hok.1⟩⟩, by simp⟩
  have := hr (0 + j) v (by rcases j with _ | j <;> first | exact hj | simp at hj)
  rw [← this, Nat.add_assoc]
theorem At.View_waits {w : World} {b o : Nat} {x : View} {fp : List Nat} (h : At w b o x fp) : ∃ f1, At w b (o + 1) x.waits f1 ∧ ∀ c ∈ f1, c ∈ fp := by
  obtain ⟨cs, hr, hc⟩ := h
  obtain ⟨rfl, rfl, hok⟩ := hc
  refine ⟨[], ⟨[I x.waits], fun j v hj => ?_, ⟨rfl, rfl, hok.2.1⟩⟩, by simp⟩
  have := hr (1 + j) v (by rcases j with _ | j <;> first | exact hj | simp at hj)
  rw [← this, Nat.add_assoc]
theorem At.View_ready {w : World} {b o : Nat} {x : View} {fp : List Nat} (h : At w b o x fp) : ∃ f1, At w b (o + 2) x.ready f1 ∧ ∀ c ∈ f1, c ∈ fp := by
  obtain ⟨cs, hr, hc⟩ := h
  obtain ⟨rfl, rfl, hok⟩ := hc
  refine ⟨[], ⟨[I x.ready], fun j v hj => ?_, ⟨rfl, rfl, hok.2.2.1⟩⟩, by simp⟩
  have := hr (2 + j) v (by rcases j with _ | j <;> first | exact hj | simp at hj)
  rw [← this, Nat.add_assoc]
theorem At.View_runs {w : World} {b o : Nat} {x : View} {fp : List Nat} (h : At w b o x fp) : ∃ f1, At w b (o + 3) x.runs f1 ∧ ∀ c ∈ f1, c ∈ fp := by
  obtain ⟨cs, hr, hc⟩ := h
  obtain ⟨rfl, rfl, hok⟩ := hc
  refine ⟨[], ⟨[I x.runs], fun j v hj => ?_, ⟨rfl, rfl, hok.2.2.2.1⟩⟩, by simp⟩
  have := hr (3 + j) v (by rcases j with _ | j <;> first | exact hj | simp at hj)
  rw [← this, Nat.add_assoc]
theorem At.View_done {w : World} {b o : Nat} {x : View} {fp : List Nat} (h : At w b o x fp) : ∃ f1, At w b (o + 4) x.done f1 ∧ ∀ c ∈ f1, c ∈ fp := by
  obtain ⟨cs, hr, hc⟩ := h
  obtain ⟨rfl, rfl, hok⟩ := hc
  refine ⟨[], ⟨[I x.done], fun j v hj => ?_, ⟨rfl, rfl, hok.2.2.2.2.1⟩⟩, by simp⟩
  have := hr (4 + j) v (by rcases j with _ | j <;> first | exact hj | simp at hj)
  rw [← this, Nat.add_assoc]
theorem At.View_failed {w : World} {b o : Nat} {x : View} {fp : List Nat} (h : At w b o x fp) : ∃ f1, At w b (o + 5) x.failed f1 ∧ ∀ c ∈ f1, c ∈ fp := by
  obtain ⟨cs, hr, hc⟩ := h
  obtain ⟨rfl, rfl, hok⟩ := hc
  refine ⟨[], ⟨[I x.failed], fun j v hj => ?_, ⟨rfl, rfl, hok.2.2.2.2.2.1⟩⟩, by simp⟩
  have := hr (5 + j) v (by rcases j with _ | j <;> first | exact hj | simp at hj)
  rw [← this, Nat.add_assoc]
theorem At.View_left {w : World} {b o : Nat} {x : View} {fp : List Nat} (h : At w b o x fp) : ∃ f1, At w b (o + 6) x.left f1 ∧ ∀ c ∈ f1, c ∈ fp := by
  obtain ⟨cs, hr, hc⟩ := h
  obtain ⟨rfl, rfl, hok⟩ := hc
  refine ⟨[], ⟨[I x.left], fun j v hj => ?_, ⟨rfl, rfl, hok.2.2.2.2.2.2⟩⟩, by simp⟩
  have := hr (6 + j) v (by rcases j with _ | j <;> first | exact hj | simp at hj)
  rw [← this, Nat.add_assoc]

/-! ### Structs of a call's own, opened and shut -/
theorem open_Plan {w0 W : World} {cs : List Value} {x : Plan} {fp : List Nat} {rs : List Res} (h : St w0 W (Res.own (.agg cs.toArray) x fp :: rs)) : ∃ (v1 : Value) (f1 : List Nat), cs = [I x.prio, I x.most, I x.wait, I x.tasks, v1] ∧ x.ok ∧ St w0 W (Res.own v1 x.edges f1 :: rs) := by
  have ho := h.get 0 rfl
  obtain ⟨v1, f1, rfl, hok, h1, rfl⟩ := own_C ho rfl
  have hw := ho.2
  have hn := h.nodup
  rw [List.flatMap_cons, List.nodup_append] at hn
  refine ⟨v1, fp, rfl, hok, St.trade (rs1 := [_]) (rs2 := [Res.own v1 x.edges fp]) h (by simpa [Res.own] using hn.1) (by simp [Res.own]) ?_⟩
  intro r hr
  simp only [List.mem_cons, List.not_mem_nil, or_false] at hr
  rcases hr with rfl
  · exact ⟨h1.v, fun b hb => hw b (by simp [hb])⟩
theorem shut_Plan {w0 W : World} {x : Plan} {v1 : Value} {f1 : List Nat} {rs : List Res} (h : St w0 W (Res.own v1 x.edges f1 :: rs)) (hok : x.ok) : St w0 W (Res.own (.agg #[I x.prio, I x.most, I x.wait, I x.tasks, v1]) x (f1) :: rs) := by
  have hn := h.sub (rs' := [Res.own v1 x.edges f1]) (by simp)
  refine St.trade (rs1 := [Res.own v1 x.edges f1]) (rs2 := [_]) h (by simpa [Res.own] using hn.nodup) (by simp [Res.own]) ?_
  intro r hr
  simp only [List.mem_singleton] at hr
  subst hr
  refine ⟨⟨[I x.prio, I x.most, I x.wait, I x.tasks, v1], rfl, v1, f1, rfl, hok, own_Sl (h.get 0 rfl), rfl⟩, ?_⟩
  intro b hb
  exact own_lt (h.get 0 rfl) b hb
theorem open_Run {w0 W : World} {cs : List Value} {x : Run} {fp : List Nat} {rs : List Res} (h : St w0 W (Res.own (.agg cs.toArray) x fp :: rs)) : ∃ (v1 v2 : Value) (f1 f2 : List Nat), cs = [I x.id, I x.plan.prio, I x.plan.most, I x.plan.wait, I x.plan.tasks, v1, I x.state, v2] ∧ x.ok ∧ St w0 W (Res.own v1 x.plan.edges f1 :: Res.own v2 x.tasks f2 :: rs) := by
  have ho := h.get 0 rfl
  obtain ⟨v1, v2, f1, f2, rfl, hok, h1, h2, rfl⟩ := own_C ho rfl
  have hw := ho.2
  have hn := h.nodup
  rw [List.flatMap_cons, List.nodup_append] at hn
  refine ⟨v1, v2, f1, f2, rfl, hok, St.trade (rs1 := [_]) (rs2 := [Res.own v1 x.plan.edges f1, Res.own v2 x.tasks f2]) h (by simpa [Res.own] using hn.1) (by simp [Res.own]) ?_⟩
  intro r hr
  simp only [List.mem_cons, List.not_mem_nil, or_false] at hr
  rcases hr with rfl | rfl
  · exact ⟨h1.v, fun b hb => hw b (by simp [hb])⟩
  · exact ⟨h2.v, fun b hb => hw b (by simp [hb])⟩
theorem shut_Run {w0 W : World} {x : Run} {v1 v2 : Value} {f1 f2 : List Nat} {rs : List Res} (h : St w0 W (Res.own v1 x.plan.edges f1 :: Res.own v2 x.tasks f2 :: rs)) (hok : x.ok) : St w0 W (Res.own (.agg #[I x.id, I x.plan.prio, I x.plan.most, I x.plan.wait, I x.plan.tasks, v1, I x.state, v2]) x (f1 ++ (f2)) :: rs) := by
  have hn := h.sub (rs' := [Res.own v1 x.plan.edges f1, Res.own v2 x.tasks f2]) (by simp)
  refine St.trade (rs1 := [Res.own v1 x.plan.edges f1, Res.own v2 x.tasks f2]) (rs2 := [_]) h (by simpa [Res.own] using hn.nodup) (by simp [Res.own]) ?_
  intro r hr
  simp only [List.mem_singleton] at hr
  subst hr
  refine ⟨⟨[I x.id, I x.plan.prio, I x.plan.most, I x.plan.wait, I x.plan.tasks, v1, I x.state, v2], rfl, v1, v2, f1, f2, rfl, hok, own_Sl (h.get 0 rfl), own_Sl (h.get 1 rfl), rfl⟩, ?_⟩
  intro b hb
  simp only [List.mem_append] at hb
  rcases hb with hb | hb
  · exact own_lt (h.get 0 rfl) b hb
  · exact own_lt (h.get 1 rfl) b hb
theorem open_Yard {w0 W : World} {cs : List Value} {x : Yard} {fp : List Nat} {rs : List Res} (h : St w0 W (Res.own (.agg cs.toArray) x fp :: rs)) : ∃ (v1 v2 : Value) (f1 f2 : List Nat), cs = [I x.now, I x.seq, v1, v2] ∧ x.ok ∧ St w0 W (Res.own v1 x.shelf f1 :: Res.own v2 x.runs f2 :: rs) := by
  have ho := h.get 0 rfl
  obtain ⟨v1, v2, f1, f2, rfl, hok, h1, h2, rfl⟩ := own_C ho rfl
  have hw := ho.2
  have hn := h.nodup
  rw [List.flatMap_cons, List.nodup_append] at hn
  refine ⟨v1, v2, f1, f2, rfl, hok, St.trade (rs1 := [_]) (rs2 := [Res.own v1 x.shelf f1, Res.own v2 x.runs f2]) h (by simpa [Res.own] using hn.1) (by simp [Res.own]) ?_⟩
  intro r hr
  simp only [List.mem_cons, List.not_mem_nil, or_false] at hr
  rcases hr with rfl | rfl
  · exact ⟨h1.v, fun b hb => hw b (by simp [hb])⟩
  · exact ⟨h2.v, fun b hb => hw b (by simp [hb])⟩
theorem shut_Yard {w0 W : World} {x : Yard} {v1 v2 : Value} {f1 f2 : List Nat} {rs : List Res} (h : St w0 W (Res.own v1 x.shelf f1 :: Res.own v2 x.runs f2 :: rs)) (hok : x.ok) : St w0 W (Res.own (.agg #[I x.now, I x.seq, v1, v2]) x (f1 ++ (f2)) :: rs) := by
  have hn := h.sub (rs' := [Res.own v1 x.shelf f1, Res.own v2 x.runs f2]) (by simp)
  refine St.trade (rs1 := [Res.own v1 x.shelf f1, Res.own v2 x.runs f2]) (rs2 := [_]) h (by simpa [Res.own] using hn.nodup) (by simp [Res.own]) ?_
  intro r hr
  simp only [List.mem_singleton] at hr
  subst hr
  refine ⟨⟨[I x.now, I x.seq, v1, v2], rfl, v1, v2, f1, f2, rfl, hok, own_Sl (h.get 0 rfl), own_Sl (h.get 1 rfl), rfl⟩, ?_⟩
  intro b hb
  simp only [List.mem_append] at hb
  rcases hb with hb | hb
  · exact own_lt (h.get 0 rfl) b hb
  · exact own_lt (h.get 1 rfl) b hb
theorem open_Deed {w0 W : World} {cs : List Value} {x : Deed} {fp : List Nat} {rs : List Res} (h : St w0 W (Res.own (.agg cs.toArray) x fp :: rs)) : ∃ (v1 : Value) (f1 : List Nat), cs = [I x.kind, I x.run, I x.plan.prio, I x.plan.most, I x.plan.wait, I x.plan.tasks, v1, I x.task, I x.try_, I x.worker, I x.draw] ∧ x.ok ∧ St w0 W (Res.own v1 x.plan.edges f1 :: rs) := by
  have ho := h.get 0 rfl
  obtain ⟨v1, f1, rfl, hok, h1, rfl⟩ := own_C ho rfl
  have hw := ho.2
  have hn := h.nodup
  rw [List.flatMap_cons, List.nodup_append] at hn
  refine ⟨v1, fp, rfl, hok, St.trade (rs1 := [_]) (rs2 := [Res.own v1 x.plan.edges fp]) h (by simpa [Res.own] using hn.1) (by simp [Res.own]) ?_⟩
  intro r hr
  simp only [List.mem_cons, List.not_mem_nil, or_false] at hr
  rcases hr with rfl
  · exact ⟨h1.v, fun b hb => hw b (by simp [hb])⟩
theorem shut_Deed {w0 W : World} {x : Deed} {v1 : Value} {f1 : List Nat} {rs : List Res} (h : St w0 W (Res.own v1 x.plan.edges f1 :: rs)) (hok : x.ok) : St w0 W (Res.own (.agg #[I x.kind, I x.run, I x.plan.prio, I x.plan.most, I x.plan.wait, I x.plan.tasks, v1, I x.task, I x.try_, I x.worker, I x.draw]) x (f1) :: rs) := by
  have hn := h.sub (rs' := [Res.own v1 x.plan.edges f1]) (by simp)
  refine St.trade (rs1 := [Res.own v1 x.plan.edges f1]) (rs2 := [_]) h (by simpa [Res.own] using hn.nodup) (by simp [Res.own]) ?_
  intro r hr
  simp only [List.mem_singleton] at hr
  subst hr
  refine ⟨⟨[I x.kind, I x.run, I x.plan.prio, I x.plan.most, I x.plan.wait, I x.plan.tasks, v1, I x.task, I x.try_, I x.worker, I x.draw], rfl, v1, f1, rfl, hok, own_Sl (h.get 0 rfl), rfl⟩, ?_⟩
  intro b hb
  exact own_lt (h.get 0 rfl) b hb
theorem open_Note {w0 W : World} {cs : List Value} {x : Note} {fp : List Nat} {rs : List Res} (h : St w0 W (Res.own (.agg cs.toArray) x fp :: rs)) : ∃ (v1 : Value) (f1 : List Nat), cs = [I x.seq, I x.deed.kind, I x.deed.run, I x.deed.plan.prio, I x.deed.plan.most, I x.deed.plan.wait, I x.deed.plan.tasks, v1, I x.deed.task, I x.deed.try_, I x.deed.worker, I x.deed.draw] ∧ x.ok ∧ St w0 W (Res.own v1 x.deed.plan.edges f1 :: rs) := by
  have ho := h.get 0 rfl
  obtain ⟨v1, f1, rfl, hok, h1, rfl⟩ := own_C ho rfl
  have hw := ho.2
  have hn := h.nodup
  rw [List.flatMap_cons, List.nodup_append] at hn
  refine ⟨v1, fp, rfl, hok, St.trade (rs1 := [_]) (rs2 := [Res.own v1 x.deed.plan.edges fp]) h (by simpa [Res.own] using hn.1) (by simp [Res.own]) ?_⟩
  intro r hr
  simp only [List.mem_cons, List.not_mem_nil, or_false] at hr
  rcases hr with rfl
  · exact ⟨h1.v, fun b hb => hw b (by simp [hb])⟩
theorem shut_Note {w0 W : World} {x : Note} {v1 : Value} {f1 : List Nat} {rs : List Res} (h : St w0 W (Res.own v1 x.deed.plan.edges f1 :: rs)) (hok : x.ok) : St w0 W (Res.own (.agg #[I x.seq, I x.deed.kind, I x.deed.run, I x.deed.plan.prio, I x.deed.plan.most, I x.deed.plan.wait, I x.deed.plan.tasks, v1, I x.deed.task, I x.deed.try_, I x.deed.worker, I x.deed.draw]) x (f1) :: rs) := by
  have hn := h.sub (rs' := [Res.own v1 x.deed.plan.edges f1]) (by simp)
  refine St.trade (rs1 := [Res.own v1 x.deed.plan.edges f1]) (rs2 := [_]) h (by simpa [Res.own] using hn.nodup) (by simp [Res.own]) ?_
  intro r hr
  simp only [List.mem_singleton] at hr
  subst hr
  refine ⟨⟨[I x.seq, I x.deed.kind, I x.deed.run, I x.deed.plan.prio, I x.deed.plan.most, I x.deed.plan.wait, I x.deed.plan.tasks, v1, I x.deed.task, I x.deed.try_, I x.deed.worker, I x.deed.draw], rfl, v1, f1, rfl, hok, own_Sl (h.get 0 rfl), rfl⟩, ?_⟩
  intro b hb
  exact own_lt (h.get 0 rfl) b hb
theorem open_Disk {w0 W : World} {cs : List Value} {x : Disk} {fp : List Nat} {rs : List Res} (h : St w0 W (Res.own (.agg cs.toArray) x fp :: rs)) : ∃ (v1 : Value) (f1 : List Nat), cs = [v1] ∧ x.ok ∧ St w0 W (Res.own v1 x.files f1 :: rs) := by
  have ho := h.get 0 rfl
  obtain ⟨v1, f1, rfl, hok, h1, rfl⟩ := own_C ho rfl
  have hw := ho.2
  have hn := h.nodup
  rw [List.flatMap_cons, List.nodup_append] at hn
  refine ⟨v1, fp, rfl, hok, St.trade (rs1 := [_]) (rs2 := [Res.own v1 x.files fp]) h (by simpa [Res.own] using hn.1) (by simp [Res.own]) ?_⟩
  intro r hr
  simp only [List.mem_cons, List.not_mem_nil, or_false] at hr
  rcases hr with rfl
  · exact ⟨h1.v, fun b hb => hw b (by simp [hb])⟩
theorem shut_Disk {w0 W : World} {x : Disk} {v1 : Value} {f1 : List Nat} {rs : List Res} (h : St w0 W (Res.own v1 x.files f1 :: rs)) (hok : x.ok) : St w0 W (Res.own (.agg #[v1]) x (f1) :: rs) := by
  have hn := h.sub (rs' := [Res.own v1 x.files f1]) (by simp)
  refine St.trade (rs1 := [Res.own v1 x.files f1]) (rs2 := [_]) h (by simpa [Res.own] using hn.nodup) (by simp [Res.own]) ?_
  intro r hr
  simp only [List.mem_singleton] at hr
  subst hr
  refine ⟨⟨[v1], rfl, v1, f1, rfl, hok, own_Sl (h.get 0 rfl), rfl⟩, ?_⟩
  intro b hb
  exact own_lt (h.get 0 rfl) b hb
theorem open_Engine {w0 W : World} {cs : List Value} {x : Engine} {fp : List Nat} {rs : List Res} (h : St w0 W (Res.own (.agg cs.toArray) x fp :: rs)) : ∃ (v1 v2 v3 v4 : Value) (f1 f2 f3 f4 : List Nat), cs = [I x.yard.now, I x.yard.seq, v1, v2, v3, I x.next, I x.calls, v4, I x.state, .bool x.broken] ∧ x.ok ∧ St w0 W (Res.own v1 x.yard.shelf f1 :: Res.own v2 x.yard.runs f2 :: Res.own v3 x.disk.files f3 :: Res.own v4 x.waits f4 :: rs) := by
  have ho := h.get 0 rfl
  obtain ⟨v1, v2, v3, v4, f1, f2, f3, f4, rfl, hok, h1, h2, h3, h4, rfl⟩ := own_C ho rfl
  have hw := ho.2
  have hn := h.nodup
  rw [List.flatMap_cons, List.nodup_append] at hn
  refine ⟨v1, v2, v3, v4, f1, f2, f3, f4, rfl, hok, St.trade (rs1 := [_]) (rs2 := [Res.own v1 x.yard.shelf f1, Res.own v2 x.yard.runs f2, Res.own v3 x.disk.files f3, Res.own v4 x.waits f4]) h (by simpa [Res.own] using hn.1) (by simp [Res.own]) ?_⟩
  intro r hr
  simp only [List.mem_cons, List.not_mem_nil, or_false] at hr
  rcases hr with rfl | rfl | rfl | rfl
  · exact ⟨h1.v, fun b hb => hw b (by simp [hb])⟩
  · exact ⟨h2.v, fun b hb => hw b (by simp [hb])⟩
  · exact ⟨h3.v, fun b hb => hw b (by simp [hb])⟩
  · exact ⟨h4.v, fun b hb => hw b (by simp [hb])⟩
theorem shut_Engine {w0 W : World} {x : Engine} {v1 v2 v3 v4 : Value} {f1 f2 f3 f4 : List Nat} {rs : List Res} (h : St w0 W (Res.own v1 x.yard.shelf f1 :: Res.own v2 x.yard.runs f2 :: Res.own v3 x.disk.files f3 :: Res.own v4 x.waits f4 :: rs)) (hok : x.ok) : St w0 W (Res.own (.agg #[I x.yard.now, I x.yard.seq, v1, v2, v3, I x.next, I x.calls, v4, I x.state, .bool x.broken]) x (f1 ++ (f2 ++ (f3 ++ (f4)))) :: rs) := by
  have hn := h.sub (rs' := [Res.own v1 x.yard.shelf f1, Res.own v2 x.yard.runs f2, Res.own v3 x.disk.files f3, Res.own v4 x.waits f4]) (by simp)
  refine St.trade (rs1 := [Res.own v1 x.yard.shelf f1, Res.own v2 x.yard.runs f2, Res.own v3 x.disk.files f3, Res.own v4 x.waits f4]) (rs2 := [_]) h (by simpa [Res.own] using hn.nodup) (by simp [Res.own]) ?_
  intro r hr
  simp only [List.mem_singleton] at hr
  subst hr
  refine ⟨⟨[I x.yard.now, I x.yard.seq, v1, v2, v3, I x.next, I x.calls, v4, I x.state, .bool x.broken], rfl, v1, v2, v3, v4, f1, f2, f3, f4, rfl, hok, own_Sl (h.get 0 rfl), own_Sl (h.get 1 rfl), own_Sl (h.get 2 rfl), own_Sl (h.get 3 rfl), rfl⟩, ?_⟩
  intro b hb
  simp only [List.mem_append] at hb
  rcases hb with hb | hb | hb | hb
  · exact own_lt (h.get 0 rfl) b hb
  · exact own_lt (h.get 1 rfl) b hb
  · exact own_lt (h.get 2 rfl) b hb
  · exact own_lt (h.get 3 rfl) b hb
theorem open_World {w0 W : World} {cs : List Value} {x : WorldD} {fp : List Nat} {rs : List Res} (h : St w0 W (Res.own (.agg cs.toArray) x fp :: rs)) : ∃ (v1 v2 v3 v4 v5 v6 : Value) (f1 f2 f3 f4 f5 f6 : List Nat), cs = [I x.engine.yard.now, I x.engine.yard.seq, v1, v2, v3, I x.engine.next, I x.engine.calls, v4, I x.engine.state, .bool x.engine.broken, v5, v6, I x.told, I x.fell] ∧ x.ok ∧ St w0 W (Res.own v1 x.engine.yard.shelf f1 :: Res.own v2 x.engine.yard.runs f2 :: Res.own v3 x.engine.disk.files f3 :: Res.own v4 x.engine.waits f4 :: Res.own v5 x.deeds f5 :: Res.own v6 x.replies f6 :: rs) := by
  have ho := h.get 0 rfl
  obtain ⟨v1, v2, v3, v4, v5, v6, f1, f2, f3, f4, f5, f6, rfl, hok, h1, h2, h3, h4, h5, h6, rfl⟩ := own_C ho rfl
  have hw := ho.2
  have hn := h.nodup
  rw [List.flatMap_cons, List.nodup_append] at hn
  refine ⟨v1, v2, v3, v4, v5, v6, f1, f2, f3, f4, f5, f6, rfl, hok, St.trade (rs1 := [_]) (rs2 := [Res.own v1 x.engine.yard.shelf f1, Res.own v2 x.engine.yard.runs f2, Res.own v3 x.engine.disk.files f3, Res.own v4 x.engine.waits f4, Res.own v5 x.deeds f5, Res.own v6 x.replies f6]) h (by simpa [Res.own] using hn.1) (by simp [Res.own]) ?_⟩
  intro r hr
  simp only [List.mem_cons, List.not_mem_nil, or_false] at hr
  rcases hr with rfl | rfl | rfl | rfl | rfl | rfl
  · exact ⟨h1.v, fun b hb => hw b (by simp [hb])⟩
  · exact ⟨h2.v, fun b hb => hw b (by simp [hb])⟩
  · exact ⟨h3.v, fun b hb => hw b (by simp [hb])⟩
  · exact ⟨h4.v, fun b hb => hw b (by simp [hb])⟩
  · exact ⟨h5.v, fun b hb => hw b (by simp [hb])⟩
  · exact ⟨h6.v, fun b hb => hw b (by simp [hb])⟩
theorem shut_World {w0 W : World} {x : WorldD} {v1 v2 v3 v4 v5 v6 : Value} {f1 f2 f3 f4 f5 f6 : List Nat} {rs : List Res} (h : St w0 W (Res.own v1 x.engine.yard.shelf f1 :: Res.own v2 x.engine.yard.runs f2 :: Res.own v3 x.engine.disk.files f3 :: Res.own v4 x.engine.waits f4 :: Res.own v5 x.deeds f5 :: Res.own v6 x.replies f6 :: rs)) (hok : x.ok) : St w0 W (Res.own (.agg #[I x.engine.yard.now, I x.engine.yard.seq, v1, v2, v3, I x.engine.next, I x.engine.calls, v4, I x.engine.state, .bool x.engine.broken, v5, v6, I x.told, I x.fell]) x (f1 ++ (f2 ++ (f3 ++ (f4 ++ (f5 ++ (f6)))))) :: rs) := by
  have hn := h.sub (rs' := [Res.own v1 x.engine.yard.shelf f1, Res.own v2 x.engine.yard.runs f2, Res.own v3 x.engine.disk.files f3, Res.own v4 x.engine.waits f4, Res.own v5 x.deeds f5, Res.own v6 x.replies f6]) (by simp)
  refine St.trade (rs1 := [Res.own v1 x.engine.yard.shelf f1, Res.own v2 x.engine.yard.runs f2, Res.own v3 x.engine.disk.files f3, Res.own v4 x.engine.waits f4, Res.own v5 x.deeds f5, Res.own v6 x.replies f6]) (rs2 := [_]) h (by simpa [Res.own] using hn.nodup) (by simp [Res.own]) ?_
  intro r hr
  simp only [List.mem_singleton] at hr
  subst hr
  refine ⟨⟨[I x.engine.yard.now, I x.engine.yard.seq, v1, v2, v3, I x.engine.next, I x.engine.calls, v4, I x.engine.state, .bool x.engine.broken, v5, v6, I x.told, I x.fell], rfl, v1, v2, v3, v4, v5, v6, f1, f2, f3, f4, f5, f6, rfl, hok, own_Sl (h.get 0 rfl), own_Sl (h.get 1 rfl), own_Sl (h.get 2 rfl), own_Sl (h.get 3 rfl), own_Sl (h.get 4 rfl), own_Sl (h.get 5 rfl), rfl⟩, ?_⟩
  intro b hb
  simp only [List.mem_append] at hb
  rcases hb with hb | hb | hb | hb | hb | hb
  · exact own_lt (h.get 0 rfl) b hb
  · exact own_lt (h.get 1 rfl) b hb
  · exact own_lt (h.get 2 rfl) b hb
  · exact own_lt (h.get 3 rfl) b hb
  · exact own_lt (h.get 4 rfl) b hb
  · exact own_lt (h.get 5 rfl) b hb
theorem open_Act {w0 W : World} {cs : List Value} {x : ActD} {fp : List Nat} {rs : List Res} (h : St w0 W (Res.own (.agg cs.toArray) x fp :: rs)) : ∃ (v1 v2 : Value) (f1 f2 : List Nat), cs = [I x.kind, I x.deed.kind, I x.deed.run, I x.deed.plan.prio, I x.deed.plan.most, I x.deed.plan.wait, I x.deed.plan.tasks, v1, I x.deed.task, I x.deed.try_, I x.deed.worker, I x.deed.draw, I x.n, v2] ∧ x.ok ∧ St w0 W (Res.own v1 x.deed.plan.edges f1 :: Res.own v2 x.keep f2 :: rs) := by
  have ho := h.get 0 rfl
  obtain ⟨v1, v2, f1, f2, rfl, hok, h1, h2, rfl⟩ := own_C ho rfl
  have hw := ho.2
  have hn := h.nodup
  rw [List.flatMap_cons, List.nodup_append] at hn
  refine ⟨v1, v2, f1, f2, rfl, hok, St.trade (rs1 := [_]) (rs2 := [Res.own v1 x.deed.plan.edges f1, Res.own v2 x.keep f2]) h (by simpa [Res.own] using hn.1) (by simp [Res.own]) ?_⟩
  intro r hr
  simp only [List.mem_cons, List.not_mem_nil, or_false] at hr
  rcases hr with rfl | rfl
  · exact ⟨h1.v, fun b hb => hw b (by simp [hb])⟩
  · exact ⟨h2.v, fun b hb => hw b (by simp [hb])⟩
theorem shut_Act {w0 W : World} {x : ActD} {v1 v2 : Value} {f1 f2 : List Nat} {rs : List Res} (h : St w0 W (Res.own v1 x.deed.plan.edges f1 :: Res.own v2 x.keep f2 :: rs)) (hok : x.ok) : St w0 W (Res.own (.agg #[I x.kind, I x.deed.kind, I x.deed.run, I x.deed.plan.prio, I x.deed.plan.most, I x.deed.plan.wait, I x.deed.plan.tasks, v1, I x.deed.task, I x.deed.try_, I x.deed.worker, I x.deed.draw, I x.n, v2]) x (f1 ++ (f2)) :: rs) := by
  have hn := h.sub (rs' := [Res.own v1 x.deed.plan.edges f1, Res.own v2 x.keep f2]) (by simp)
  refine St.trade (rs1 := [Res.own v1 x.deed.plan.edges f1, Res.own v2 x.keep f2]) (rs2 := [_]) h (by simpa [Res.own] using hn.nodup) (by simp [Res.own]) ?_
  intro r hr
  simp only [List.mem_singleton] at hr
  subst hr
  refine ⟨⟨[I x.kind, I x.deed.kind, I x.deed.run, I x.deed.plan.prio, I x.deed.plan.most, I x.deed.plan.wait, I x.deed.plan.tasks, v1, I x.deed.task, I x.deed.try_, I x.deed.worker, I x.deed.draw, I x.n, v2], rfl, v1, v2, f1, f2, rfl, hok, own_Sl (h.get 0 rfl), own_Sl (h.get 1 rfl), rfl⟩, ?_⟩
  intro b hb
  simp only [List.mem_append] at hb
  rcases hb with hb | hb
  · exact own_lt (h.get 0 rfl) b hb
  · exact own_lt (h.get 1 rfl) b hb
theorem open_Span {w0 W : World} {cs : List Value} {x : Span} {fp : List Nat} {rs : List Res} (h : St w0 W (Res.own (.agg cs.toArray) x fp :: rs)) : ∃ (v1 : Value) (f1 : List Nat), cs = [I x.deed.kind, I x.deed.run, I x.deed.plan.prio, I x.deed.plan.most, I x.deed.plan.wait, I x.deed.plan.tasks, v1, I x.deed.task, I x.deed.try_, I x.deed.worker, I x.deed.draw, I x.begin_, I x.end_, I x.reply.code, I x.reply.run, I x.reply.task, I x.reply.try_] ∧ x.ok ∧ St w0 W (Res.own v1 x.deed.plan.edges f1 :: rs) := by
  have ho := h.get 0 rfl
  obtain ⟨v1, f1, rfl, hok, h1, rfl⟩ := own_C ho rfl
  have hw := ho.2
  have hn := h.nodup
  rw [List.flatMap_cons, List.nodup_append] at hn
  refine ⟨v1, fp, rfl, hok, St.trade (rs1 := [_]) (rs2 := [Res.own v1 x.deed.plan.edges fp]) h (by simpa [Res.own] using hn.1) (by simp [Res.own]) ?_⟩
  intro r hr
  simp only [List.mem_cons, List.not_mem_nil, or_false] at hr
  rcases hr with rfl
  · exact ⟨h1.v, fun b hb => hw b (by simp [hb])⟩
theorem shut_Span {w0 W : World} {x : Span} {v1 : Value} {f1 : List Nat} {rs : List Res} (h : St w0 W (Res.own v1 x.deed.plan.edges f1 :: rs)) (hok : x.ok) : St w0 W (Res.own (.agg #[I x.deed.kind, I x.deed.run, I x.deed.plan.prio, I x.deed.plan.most, I x.deed.plan.wait, I x.deed.plan.tasks, v1, I x.deed.task, I x.deed.try_, I x.deed.worker, I x.deed.draw, I x.begin_, I x.end_, I x.reply.code, I x.reply.run, I x.reply.task, I x.reply.try_]) x (f1) :: rs) := by
  have hn := h.sub (rs' := [Res.own v1 x.deed.plan.edges f1]) (by simp)
  refine St.trade (rs1 := [Res.own v1 x.deed.plan.edges f1]) (rs2 := [_]) h (by simpa [Res.own] using hn.nodup) (by simp [Res.own]) ?_
  intro r hr
  simp only [List.mem_singleton] at hr
  subst hr
  refine ⟨⟨[I x.deed.kind, I x.deed.run, I x.deed.plan.prio, I x.deed.plan.most, I x.deed.plan.wait, I x.deed.plan.tasks, v1, I x.deed.task, I x.deed.try_, I x.deed.worker, I x.deed.draw, I x.begin_, I x.end_, I x.reply.code, I x.reply.run, I x.reply.task, I x.reply.try_], rfl, v1, f1, rfl, hok, own_Sl (h.get 0 rfl), rfl⟩, ?_⟩
  intro b hb
  exact own_lt (h.get 0 rfl) b hb
theorem open_Crew {w0 W : World} {cs : List Value} {x : Crew} {fp : List Nat} {rs : List Res} (h : St w0 W (Res.own (.agg cs.toArray) x fp :: rs)) : ∃ (v1 v2 v3 : Value) (f1 f2 f3 : List Nat), cs = [I x.yard.now, I x.yard.seq, v1, v2, v3, I x.turns, I x.did] ∧ x.ok ∧ St w0 W (Res.own v1 x.yard.shelf f1 :: Res.own v2 x.yard.runs f2 :: Res.own v3 x.holds f3 :: rs) := by
  have ho := h.get 0 rfl
  obtain ⟨v1, v2, v3, f1, f2, f3, rfl, hok, h1, h2, h3, rfl⟩ := own_C ho rfl
  have hw := ho.2
  have hn := h.nodup
  rw [List.flatMap_cons, List.nodup_append] at hn
  refine ⟨v1, v2, v3, f1, f2, f3, rfl, hok, St.trade (rs1 := [_]) (rs2 := [Res.own v1 x.yard.shelf f1, Res.own v2 x.yard.runs f2, Res.own v3 x.holds f3]) h (by simpa [Res.own] using hn.1) (by simp [Res.own]) ?_⟩
  intro r hr
  simp only [List.mem_cons, List.not_mem_nil, or_false] at hr
  rcases hr with rfl | rfl | rfl
  · exact ⟨h1.v, fun b hb => hw b (by simp [hb])⟩
  · exact ⟨h2.v, fun b hb => hw b (by simp [hb])⟩
  · exact ⟨h3.v, fun b hb => hw b (by simp [hb])⟩
theorem shut_Crew {w0 W : World} {x : Crew} {v1 v2 v3 : Value} {f1 f2 f3 : List Nat} {rs : List Res} (h : St w0 W (Res.own v1 x.yard.shelf f1 :: Res.own v2 x.yard.runs f2 :: Res.own v3 x.holds f3 :: rs)) (hok : x.ok) : St w0 W (Res.own (.agg #[I x.yard.now, I x.yard.seq, v1, v2, v3, I x.turns, I x.did]) x (f1 ++ (f2 ++ (f3))) :: rs) := by
  have hn := h.sub (rs' := [Res.own v1 x.yard.shelf f1, Res.own v2 x.yard.runs f2, Res.own v3 x.holds f3]) (by simp)
  refine St.trade (rs1 := [Res.own v1 x.yard.shelf f1, Res.own v2 x.yard.runs f2, Res.own v3 x.holds f3]) (rs2 := [_]) h (by simpa [Res.own] using hn.nodup) (by simp [Res.own]) ?_
  intro r hr
  simp only [List.mem_singleton] at hr
  subst hr
  refine ⟨⟨[I x.yard.now, I x.yard.seq, v1, v2, v3, I x.turns, I x.did], rfl, v1, v2, v3, f1, f2, f3, rfl, hok, own_Sl (h.get 0 rfl), own_Sl (h.get 1 rfl), own_Sl (h.get 2 rfl), rfl⟩, ?_⟩
  intro b hb
  simp only [List.mem_append] at hb
  rcases hb with hb | hb | hb
  · exact own_lt (h.get 0 rfl) b hb
  · exact own_lt (h.get 1 rfl) b hb
  · exact own_lt (h.get 2 rfl) b hb
end Go.Proofs.YtchnllpegfbleaaDoor

/-
  Parts of slices; appending a whole slice of plain elements; structs that are built.
-/
namespace Go.Proofs.YtchnllpegfbleaaDoor
set_option linter.unusedSimpArgs false
set_option linter.unusedVariables false
set_option maxRecDepth 100000
open Go.RowKit

section
variable {α : Type} [Shape α]
theorem SlAt.takeN {w : World} {b : Nat} : ∀ {xs : List α} {o : Nat} {fp : List Nat} (k : Nat), SlAt w b o xs fp → ∃ f', SlAt w b o (xs.take k) f' ∧ ∀ c ∈ f', c ∈ fp
  | _, _, _, 0, _ => ⟨[], by simp [SlAt], by simp⟩
  | [], _, _, k + 1, h => ⟨[], by simp [SlAt], by simp⟩
  | x :: xs, o, fp, k + 1, ⟨cs, f1, f2, h1, h2, h3, h4⟩ => by
    obtain ⟨f', h5, h6⟩ := SlAt.takeN k h3
    subst h4
    exact ⟨f1 ++ f', ⟨cs, f1, f', h1, h2, h5, rfl⟩, fun c hc => by
      rcases List.mem_append.1 hc with hc | hc
      · simp [hc]
      · simp [h6 c hc]⟩
theorem SlAt.dropN {w : World} {b : Nat} : ∀ {xs : List α} {o : Nat} {fp : List Nat} (k : Nat), k ≤ xs.length → SlAt w b o xs fp → ∃ f', SlAt w b (o + k * Shape.size α) (xs.drop k) f' ∧ ∀ c ∈ f', c ∈ fp
  | _, _, fp, 0, _, h => ⟨fp, by simpa using h, fun _ h => h⟩
  | [], _, _, k + 1, hk, h => by simp at hk
  | x :: xs, o, fp, k + 1, hk, ⟨cs, f1, f2, h1, h2, h3, h4⟩ => by
    obtain ⟨f', h5, h6⟩ := SlAt.dropN k (by simpa using hk) h3
    subst h4
    refine ⟨f', ?_, fun c hc => by simp [h6 c hc]⟩
    rw [show o + (k + 1) * Shape.size α = o + Shape.size α + k * Shape.size α by rw [Nat.add_mul]; omega]
    exact h5
/-- A part of a slice is a slice. -/
theorem Sl.part {w : World} {v : Value} {xs : List α} {fp : List Nat} (h : Sl w v xs fp) (lo hi : Nat) (hlo : lo ≤ hi) (hhi : hi ≤ xs.length) : ∃ ao cap fp', v = .slice ao xs.length cap ∧ hi ≤ cap ∧ Sl w (sliced ao lo hi cap (Shape.size α)) ((xs.take hi).drop lo) fp' ∧ ∀ c ∈ fp', c ∈ fp := by
  obtain ⟨ao, cap, rfl, h1, h2, h3⟩ := h
  have hlen : ((xs.take hi).drop lo).length = hi - lo := by simp; omega
  by_cases he : hi = lo
  · have hnil : (xs.take hi).drop lo = [] := List.eq_nil_of_length_eq_zero (by omega)
    refine ⟨ao, cap, [], rfl, by omega, ?_, by simp⟩
    rw [hnil]
    exact ⟨if cap = lo then ao else ao.map (·.add (lo * Shape.size α)), cap - lo, by simp [sliced, he], by simp, by omega, .inl ⟨rfl, rfl⟩⟩
  · rcases h3 with ⟨rfl, _⟩ | ⟨b, off, f, hne, rfl, rfl, hb, h3⟩
    · simp at hhi; omega
    · obtain ⟨f1, a1, a2⟩ := SlAt.takeN hi h3
      obtain ⟨f2, b1, b2⟩ := SlAt.dropN lo (by simp; omega) a1
      refine ⟨_, cap, b :: f2, rfl, by omega, ⟨some ⟨b, off + lo * Shape.size α, none⟩, cap - lo, ?_, by omega, by omega, .inr ⟨b, _, f2, fun h0 => by rw [h0] at hlen; simp at hlen; omega, rfl, rfl, hb, b1⟩⟩, ?_⟩
      · have : ¬ cap = lo := by omega
        simp [sliced, this, Addr.add, hlen]
      · intro c hc
        rcases List.mem_cons.1 hc with rfl | hc
        · simp
        · simp [a2 c (b2 c hc)]
end
section
variable {P : Program} {n : Nat} {f : Nat → Value} {W w0 : World} {rs : List Res} {Q : Exit → Act → World → Prop} {K : Value → World → Prop}
  {d : Option Tmp} {ty : TypeId} {pos : String} {af : Array Go.Edge} {g : Option (Nat × Bool)} {α : Type} [Shape α]
theorem run_size {e : TypeId} {k : Nat} (h : (P.info? e).map (·.size) = some k) (W : World) : (sizeOf e).run P W = .ok k W := by
  cases hq : P.info? e with
  | none => simp [hq] at h
  | some i => simp [hq] at h; simp [sizeOf, typeInfo, hq, h]
/-- x[:h] -/
theorem stp_slice_h {w : World} {t t' : TypeId} {x y : Operand} {v : Value} {xs : List α} {fp : List Nat} {e : Int} {h : Nat} (hT : SlOk P t t' α) (hx : ev n f x = v) (hs : Sl w v xs fp) (hy : ev n f y = I e) (he : e = h) (hh : h ≤ xs.length)
    (k : ∀ v' fp', Sl w v' (xs.take h) fp' → (∀ c ∈ fp', c ∈ fp) → K v' W) : Stp P n ⟨d, .slice t x none (some y) none, ty, pos, af, g⟩ f W Q K := by
  subst he
  obtain ⟨ao, cap, fp', rfl, hcap, hs', hf⟩ := hs.part 0 h (Nat.zero_le _) hh
  have hel : P.elem t = t' := by simp [Program.elem, hT.desc]
  have hu : P.underlying t = some (.slice (P.elem t)) := by rw [hel]; exact hT.desc
  refine Stp.run (v := sliced ao 0 h cap (Shape.size α)) ?_ (k _ fp' (by simpa using hs') hf)
  simp only [execOp, hx, hy, Sem.run_bind, Option.map_none, Option.map_some]
  rw [run_sliceAt_slice (h := hu), run_slice_h (ht := hu) (h0 := by omega) (h2 := by omega), hel, run_size hT.size]
  simp
/-- x[l:] -/
theorem stp_slice_l {w : World} {t t' : TypeId} {x y : Operand} {v : Value} {xs : List α} {fp : List Nat} {e : Int} {l : Nat} (hT : SlOk P t t' α) (hx : ev n f x = v) (hs : Sl w v xs fp) (hy : ev n f y = I e) (he : e = l) (hh : l ≤ xs.length)
    (k : ∀ v' fp', Sl w v' (xs.drop l) fp' → (∀ c ∈ fp', c ∈ fp) → K v' W) : Stp P n ⟨d, .slice t x (some y) none none, ty, pos, af, g⟩ f W Q K := by
  subst he
  obtain ⟨ao, cap, fp', rfl, hcap, hs', hf⟩ := hs.part l xs.length hh (Nat.le_refl _)
  have hel : P.elem t = t' := by simp [Program.elem, hT.desc]
  have hu : P.underlying t = some (.slice (P.elem t)) := by rw [hel]; exact hT.desc
  refine Stp.run (v := sliced ao l xs.length cap (Shape.size α)) ?_ (k _ fp' (by simpa using hs') hf)
  simp only [execOp, hx, hy, Sem.run_bind, Option.map_none, Option.map_some]
  rw [run_sliceAt_slice (h := hu), run_slice_l (ht := hu) (h0 := by omega) (h1 := by omega), hel, run_size hT.size]
  simp
/-- Plain elements lead nowhere. -/
def Plain (α : Type) [Shape α] : Prop := ∀ (w : World) cs (x : α) fp, Shape.C w cs x fp → fp = []
theorem SlAt.plain (hp : Plain α) {w : World} {b : Nat} : ∀ {xs : List α} {o : Nat} {fp : List Nat}, SlAt w b o xs fp → fp = []
  | [], _, _, h => h
  | x :: xs, o, fp, ⟨cs, f1, f2, h1, h2, h3, h4⟩ => by rw [h4, hp _ _ _ _ h2, SlAt.plain hp h3]; rfl
/-- append(out, list...), of plain elements. -/
theorem stp_append_sl {w : World} {t e : TypeId} {bytes : Nat} {s x : Operand} {v u : Value} {xs ys : List α} {fy : List Nat} (hp : Plain α) (hT : ApOk P t e α bytes) (hs : ev n f s = v) (hx : ev n f x = u) (hu : Sl w u ys fy) (hb : Below w.heap.size w W)
    (hst : St w0 W (Res.row e v xs [] :: rs)) (h63 : xs.length + ys.length ≤ maxLen) (hby : (xs.length + ys.length) * bytes ≤ 140737488355328)
    (k : ∀ v' W', St w0 W' (Res.row e v' (xs ++ ys) [] :: rs) → K v' W') :
    Stp P n ⟨d, .call { callee := .builtin .append, args := #[s, x], argTypes := #[t, t] }, ty, pos, af, g⟩ f W Q K := by
  have hu' := hu.below hb
  obtain ⟨ao, cap, rfl, h1, h2, h3⟩ := hu'
  cases ao with
  | none =>
    have hys : ys = [] := by
      rcases h3 with ⟨h, _⟩ | ⟨b, off, f, _, h, _⟩
      · exact h
      · cases h
    subst hys
    obtain ⟨⟨cells, ho, he⟩, hw⟩ := hst.get 0 rfl
    obtain ⟨i, z, hi, hz, g1, g2, g3⟩ := hT.info
    have hw0 : W.ownsRow 0 e (Shape.size α) v xs.length cells := ho
    refine Stp.run (v := v) (W' := W) ?_ (by have := k v W; rw [List.append_nil] at this; exact this hst)
    simp only [execOp, resolve, invoke, builtin, Sem.run_bind, Sem.run_pure, Result.andThen_ok, List.map_toArray, List.map_cons, List.map_nil, hs, hx]
    have hr : (Builtin.append_ #[t, t] ty #[v, .slice none 0 cap]).run P W = .ok v W := by
      rcases ho.2 with ⟨rfl, _⟩ | ⟨gg, cap', cur, rfl, _, hg, hn, _, _, _⟩
      · simp [Builtin.append_, run_underlying hT.desc, sizeOf, typeInfo, hi, Builtin.lenOf, Builtin.firstCells, loadCells, loadCellsFrom]
      · simp [Builtin.append_, run_underlying hT.desc, sizeOf, typeInfo, hi, Builtin.lenOf, Builtin.firstCells, loadCells, loadCellsFrom, hn, storeCells, Addr.add]
    simp only [List.length_nil] at hr ⊢
    rw [hr]; rfl
  | some ad =>
    rcases h3 with ⟨hys, _⟩ | ⟨b, off, f', _, hao, _, hbl, hat⟩
    · subst hys
      refine stp_append hT hs hx rfl hst (news := []) (fy := []) ⟨rfl, rfl⟩ (by simp) (by simp) (by simp) (by simp) h63 hby ?_
      intro v' W' h
      exact k v' W' h
    · injection hao with hao
      subst hao
      obtain ⟨cells, hel, hr⟩ := Elems.of_at off hat
      have hf0 := SlAt.plain hp hat
      subst hf0
      refine stp_append hT hs hx rfl hst hel ?_ (by simp) (by simp) (by simp) h63 hby ?_
      · intro j u hj
        rw [Addr.add_mid]
        exact hr j u hj
      · intro v' W' h
        exact k v' W' h
/-- A struct that is built of its parts. -/
theorem stp_build {t : TypeId} {parts : List (Nat × Operand)} {vs : List (Nat × Value)} {cs : List Value} (hv : parts.map (fun (i, x) => (i, ev n f x)) = vs) (hb : (Instr.build t vs.toArray).run P W = .ok (.agg cs.toArray) W) (k : K (.agg cs.toArray) W) : Stp P n ⟨d, .build t parts.toArray, ty, pos, af, g⟩ f W Q K :=
  Stp.run (v := .agg cs.toArray) (by
    have e1 : parts.toArray.map (fun (i, x) => (i, ev n f x)) = vs.toArray := by rw [← hv]; simp
    simp only [execOp, Sem.run_bind, e1, hb]; rfl) k
end
theorem plain_flat {α : Type} [Shape α] (cells : α → List Value) (ok : α → Prop) (h : ∀ (w : World) cs (x : α) fp, Shape.C w cs x fp → cs = cells x ∧ fp = [] ∧ ok x) : Plain α := fun w cs x fp hc => (h w cs x fp hc).2.1
theorem plain_int : Plain Int := fun _ _ _ _ h => h.2.1
theorem plain_Entry : Plain Entry := fun _ _ _ _ h => h.2.1
theorem plain_Task : Plain Task := fun _ _ _ _ h => h.2.1
theorem plain_Edge : Plain Edge := fun _ _ _ _ h => h.2.1
theorem plain_Reply : Plain Reply := fun _ _ _ _ h => h.2.1
theorem plain_str : Plain ByteArray := fun _ _ _ _ h => h.2.1
end Go.Proofs.YtchnllpegfbleaaDoor

/-
  An element of an owned slice, lent: its block written out around it; what else the slice holds stays aside until it is given back.
-/
namespace Go.Proofs.YtchnllpegfbleaaDoor
set_option linter.unusedSimpArgs false
set_option linter.unusedVariables false
set_option maxRecDepth 100000
open Go.RowKit

section
variable {α : Type} [Shape α]
theorem Elems.split {W : World} : ∀ {xs : List α} {cells : List Value} {fp : List Nat} (i : Nat) (hi : i < xs.length), Elems W cells xs fp → ∃ c1 cs c2 f1 fi f2, cells = c1 ++ cs ++ c2 ∧ fp = f1 ++ fi ++ f2 ∧ c1.length = i * Shape.size α ∧ Elems W c1 (xs.take i) f1 ∧ Shape.C W cs xs[i] fi ∧ Elems W c2 (xs.drop (i + 1)) f2
  | x :: xs, cells, fp, 0, _, ⟨cs, rest, f1, f2, h1, h2, h3, h4⟩ => ⟨[], cs, rest, [], f1, f2, by simpa using h1, by simpa using h4, by simp, ⟨rfl, rfl⟩, h2, by simpa using h3⟩
  | x :: xs, cells, fp, i + 1, hi, ⟨cs, rest, f1, f2, h1, h2, h3, h4⟩ => by
    obtain ⟨c1, cs', c2, g1, gi, g2, a1, a2, a3, a4, a5, a6⟩ := Elems.split i (by simpa using hi) h3
    subst h1 h4 a1 a2
    refine ⟨cs ++ c1, cs', c2, f1 ++ g1, gi, g2, by simp, by simp, ?_, ⟨cs, c1, f1, g1, rfl, h2, a4, rfl⟩, a5, by simpa using a6⟩
    rw [List.length_append, Shape.len h2, a3, Nat.add_mul]; omega
theorem Elems.join {W : World} {xs : List α} {i : Nat} (hi : i < xs.length) {c1 cs c2 : List Value} {f1 fi f2 : List Nat} {y : α} (h1 : Elems W c1 (xs.take i) f1) (h2 : Shape.C W cs y fi) (h3 : Elems W c2 (xs.drop (i + 1)) f2) : Elems W (c1 ++ cs ++ c2) (xs.set i y) (f1 ++ fi ++ f2) := by
  have := (h1.append (Elems.single h2)).append h3
  have e : xs.set i y = xs.take i ++ [y] ++ xs.drop (i + 1) := by
    rw [List.set_eq_take_append_cons_drop, if_pos hi, List.append_assoc]; rfl
  rw [e]; exact this
theorem block_at {W : World} {b off : Nat} {C : Array Value} {e : TypeId} {fr : Nat × Nat} {cells : List Value} (hC : W.heap[b]? = some (.cells C e fr)) (hr : W.rangeAt b off cells) : cells = [] ∨ C.toList = C.toList.take off ++ cells ++ C.toList.drop (off + cells.length) := by
  by_cases hn : cells = []
  · exact .inl hn
  refine .inr ?_
  have hcell : ∀ j v, cells[j]? = some v → C.toList[off + j]? = some v := by
    intro j v hj
    have := hr j v hj
    simp [World.cell?, hC] at this
    simpa using this
  have hlen : off + cells.length ≤ C.toList.length := by
    have hp : 0 < cells.length := List.length_pos_iff.2 hn
    have := hcell (cells.length - 1) _ (List.getElem?_eq_getElem (by omega))
    have := (List.getElem?_eq_some_iff.1 this).1
    omega
  apply List.ext_getElem?
  intro j
  by_cases h1 : j < off
  · rw [List.append_assoc, List.getElem?_append_left (by rw [List.length_take]; omega), List.getElem?_take, if_pos h1]
  · rw [List.append_assoc, List.getElem?_append_right (by rw [List.length_take]; omega), List.length_take, Nat.min_eq_left (by omega)]
    by_cases h2 : j - off < cells.length
    · rw [List.getElem?_append_left h2]
      have := hcell (j - off) _ (List.getElem?_eq_getElem h2)
      rw [show off + (j - off) = j by omega] at this
      rw [this, List.getElem?_eq_getElem h2]
    · rw [List.getElem?_append_right (by omega), List.getElem?_drop]
      congr 1; omega

/-- What an owned slice holds besides the element that is lent. -/
def Res.rest (v : Value) (b : Nat) (pre post : List Value) (xs : List α) (i : Nat) (fr : List Nat) : Res where
  fp := fr
  holds := fun W => (∃ off cap f1 f2 p0 c1 c2 q0, v = .slice (some ⟨b, off, none⟩) xs.length cap ∧ xs.length ≤ cap ∧ cap ≤ 9223372036854775807 ∧ i < xs.length ∧ pre = p0 ++ c1 ∧ p0.length = off ∧ post = c2 ++ q0 ∧ Elems W c1 (xs.take i) f1 ∧ Elems W c2 (xs.drop (i + 1)) f2 ∧ fr = f1 ++ f2) ∧ ∀ c ∈ fr, Wr W c
  loc := by
    rintro W W' hs hb ⟨⟨off, cap, f1, f2, p0, c1, c2, q0, h1, h2, h3, h4, h5, h6, h7, h8, h9, rfl⟩, hw⟩
    exact ⟨⟨off, cap, f1, f2, p0, c1, c2, q0, h1, h2, h3, h4, h5, h6, h7, h8.loc hs (fun b hm => hb b (List.mem_append_left _ hm)), h9.loc hs (fun b hm => hb b (List.mem_append_right _ hm)), rfl⟩, fun c hc => (hw c hc).loc (hb c hc)⟩
  wr := fun h => h.2

theorem St.lend (hp : 0 < Shape.size α) {w0 W : World} {rs : List Res} {v : Value} {xs : List α} {fp : List Nat} (h : St w0 W (Res.own v xs fp :: rs)) {i : Nat} (hi : i < xs.length) : ∃ b e pre cs post fi fr, PA v (Shape.size α) i b pre.length ∧ Shape.C W cs xs[i] fi ∧
    St w0 W (Res.bx b (pre ++ cs ++ post) e :: Res.cs cs xs[i] fi :: Res.rest v b pre post xs i fr :: rs) := by
  have hown := h.get 0 rfl
  have hsl := own_Sl hown
  have hwr := hown.2
  obtain ⟨ao, cap, rfl, h1, h2, h3⟩ := hsl
  rcases h3 with ⟨rfl, _⟩ | ⟨b, off, f, hne, rfl, rfl, hb, h3⟩
  · simp at hi
  obtain ⟨cells, he, hr⟩ := Elems.of_at off h3
  have hcl := he.len
  have hxl : 0 < xs.length := by omega
  have hcpos : 0 < cells.length := by rw [hcl]; exact Nat.mul_pos hxl hp
  obtain ⟨c1, cs, c2, f1, fi, f2, e1, e2, e3, e4, e5, e6⟩ := he.split i hi
  obtain ⟨C, e, hC⟩ := hwr b (by simp)
  have hnd := h.nodup
  rw [List.flatMap_cons, List.nodup_append] at hnd
  have hnd1 : (b :: f).Nodup := hnd.1
  have hperm : (fi ++ (f1 ++ f2)).Perm f := by
    rw [e2, ← List.append_assoc]
    exact (List.perm_append_comm).append_right _
  have h0 : C.toList = C.toList.take off ++ cells ++ C.toList.drop (off + cells.length) := by
    rcases block_at hC hr with h0 | h0
    · rw [h0] at hcpos; simp at hcpos
    · exact h0
  have hp0 : (C.toList.take off).length = off := by
    have hl := congrArg List.length h0
    simp only [List.length_append, List.length_take, List.length_drop] at hl
    rw [List.length_take]
    omega
  generalize C.toList.take off = p0 at h0 hp0
  generalize C.toList.drop (off + cells.length) = q0 at h0
  have hC3 : W.heap[b]? = some (.cells ((p0 ++ c1) ++ cs ++ (c2 ++ q0)).toArray e (0, 0)) := by
    rw [hC]
    congr 2
    apply Array.ext'
    rw [h0, e1]
    simp
  have hlen : (p0 ++ c1).length = off + i * Shape.size α := by rw [List.length_append, hp0, e3]
  refine ⟨b, e, p0 ++ c1, cs, c2 ++ q0, fi, f1 ++ f2, ⟨off, xs.length, cap, rfl, hi, hlen⟩, e5, ?_⟩
  refine St.trade (rs1 := [Res.own (.slice (some ⟨b, off, none⟩) xs.length cap) xs (b :: f)]) (rs2 := [Res.bx b _ e, Res.cs cs xs[i] fi, Res.rest _ b _ _ xs i (f1 ++ f2)]) h ?_ ?_ ?_
  · show (b :: (fi ++ ((f1 ++ f2) ++ []))).Nodup
    rw [List.append_nil]
    exact ((hperm.cons b).nodup_iff).2 hnd1
  · intro c hc
    have hc : c ∈ b :: (fi ++ ((f1 ++ f2) ++ [])) := hc
    rw [List.append_nil] at hc
    have := (hperm.cons b).mem_iff.1 hc
    simpa [Res.own] using this
  · intro r hr'
    simp only [List.mem_cons, List.not_mem_nil, or_false] at hr'
    have hmem : ∀ c, c ∈ fi ++ (f1 ++ f2) → Wr W c := fun c hc => hwr c (List.mem_cons_of_mem _ (hperm.mem_iff.1 hc))
    rcases hr' with rfl | rfl | rfl
    · exact hC3
    · exact ⟨e5, fun c hc => hmem c (List.mem_append_left _ hc)⟩
    · exact ⟨⟨off, cap, f1, f2, p0, c1, c2, q0, rfl, h1, h2, hi, rfl, hp0, rfl, e4, e6, rfl⟩, fun c hc => hmem c (List.mem_append_right _ hc)⟩
/-- It is given back, as it is now. -/
theorem St.give {w0 W : World} {rs : List Res} {v : Value} {xs : List α} {b i : Nat} {e : TypeId} {pre cs post : List Value} {y : α} {fi fr : List Nat}
    (h : St w0 W (Res.bx b (pre ++ cs ++ post) e :: Res.cs cs y fi :: Res.rest v b pre post xs i fr :: rs)) : ∃ fp, St w0 W (Res.own v (xs.set i y) fp :: rs) := by
  have hb : W.heap[b]? = some (.cells (pre ++ cs ++ post).toArray e (0, 0)) := h.get 0 rfl
  obtain ⟨hc, hcw⟩ := h.get 1 rfl
  obtain ⟨⟨off, cap, f1, f2, p0, c1, c2, q0, rfl, h2, h3, hi, rfl, rfl, rfl, h8, h9, rfl⟩, hw⟩ := h.get 2 rfl
  have hnd := h.nodup
  have hfp : ((Res.bx b (p0 ++ c1 ++ cs ++ (c2 ++ q0)) e :: Res.cs cs y fi :: Res.rest (.slice (some ⟨b, p0.length, none⟩) xs.length cap) b (p0 ++ c1) (c2 ++ q0) xs i (f1 ++ f2) :: rs).flatMap Res.fp) = (b :: (fi ++ (f1 ++ f2))) ++ rs.flatMap Res.fp := by
    simp [List.flatMap_cons, Res.bx, Res.cs, Res.rest]
  rw [hfp, List.nodup_append] at hnd
  have hperm : (f1 ++ fi ++ f2).Perm (fi ++ (f1 ++ f2)) := by
    rw [← List.append_assoc]
    exact (List.perm_append_comm).append_right _
  refine ⟨b :: (f1 ++ fi ++ f2), St.trade (rs1 := [Res.bx b (p0 ++ c1 ++ cs ++ (c2 ++ q0)) e, Res.cs cs y fi, Res.rest (.slice (some ⟨b, p0.length, none⟩) xs.length cap) b (p0 ++ c1) (c2 ++ q0) xs i (f1 ++ f2)]) (rs2 := [Res.own _ _ _]) h ?_ ?_ ?_⟩
  · show (b :: (f1 ++ fi ++ f2) ++ []).Nodup
    rw [List.append_nil]
    exact ((hperm.cons b).nodup_iff).2 hnd.1
  · intro c hc'
    have hc' : c ∈ b :: (f1 ++ fi ++ f2) ++ [] := hc'
    rw [List.append_nil] at hc'
    have := (hperm.cons b).mem_iff.1 hc'
    simp only [List.flatMap_cons, List.flatMap_nil, List.append_nil, Res.bx, Res.cs, Res.rest]
    simpa using this
  · intro r hr
    rw [List.mem_singleton] at hr; subst hr
    have hbl : b < W.heap.size := (Array.getElem?_eq_some_iff.1 hb).1
    refine ⟨Sl.v ⟨some ⟨b, p0.length, none⟩, cap, by rw [List.length_set], by rw [List.length_set]; exact h2, h3, .inr ⟨b, p0.length, f1 ++ fi ++ f2, ?_, rfl, rfl, hbl, ?_⟩⟩, ?_⟩
    · intro h0
      have := congrArg List.length h0
      rw [List.length_set] at this
      simp at this
      rw [this] at hi
      simp at hi
    · refine (Elems.join hi h8 hc h9).at p0.length ?_
      intro j u hj
      have hr := range_of_heap hb (p0.length + j) u
      rw [Nat.zero_add] at hr
      refine hr ?_
      have : (p0 ++ c1 ++ cs ++ (c2 ++ q0)) = p0 ++ ((c1 ++ cs ++ c2) ++ q0) := by simp
      rw [this, List.getElem?_append_right (by omega), Nat.add_sub_cancel_left, List.getElem?_append_left ((List.getElem?_eq_some_iff.1 hj).1)]
      exact hj
    · intro c hc'
      rcases List.mem_cons.1 hc' with rfl | hc'
      · exact ⟨_, _, hb⟩
      · rcases List.mem_append.1 hc' with hc' | hc'
        · rcases List.mem_append.1 hc' with hc' | hc'
          · exact hw c (List.mem_append_left _ hc')
          · exact hcw c hc'
        · exact hw c (List.mem_append_right _ hc')
theorem St.lendx (hp : 0 < Shape.size α) {w0 W : World} {rs : List Res} {v : Value} {xs : List α} {fp : List Nat} (h : St w0 W (Res.own v xs fp :: rs)) {i : Nat} {x : α} (hi : xs[i]? = some x) : ∃ b e pre cs post fi fr, PA v (Shape.size α) i b pre.length ∧ Shape.C W cs x fi ∧
    St w0 W (Res.bx b (pre ++ cs ++ post) e :: Res.cs cs x fi :: Res.rest v b pre post xs i fr :: rs) := by
  obtain ⟨hl, rfl⟩ := List.getElem?_eq_some_iff.1 hi
  exact h.lend hp hl
end
theorem St.dropAt {w0 W : World} {rs : List Res} (h : St w0 W rs) (i : Nat) : St w0 W (rs.eraseIdx i) := h.sub (List.eraseIdx_sublist rs i)
theorem St.uncs {α : Type} [Shape α] [Agg α] {w0 W : World} {cs : List Value} {x : α} {fp : List Nat} {rs : List Res} (h : St w0 W (Res.cs cs x fp :: rs)) (ha : Agg.agg α = true) : St w0 W (Res.own (.agg cs.toArray) x fp :: rs) :=
  h.trade1 rfl (fun h => ⟨⟨cs, by simp [val, ha], h.1⟩, h.2⟩)
theorem St.uncs1 {α : Type} [Shape α] {w0 W : World} {cs : List Value} {x : List α} {fp : List Nat} {rs : List Res} (h : St w0 W (Res.cs cs x fp :: rs)) : ∃ v, cs = [v] ∧ St w0 W (Res.own v x fp :: rs) := by
  obtain ⟨⟨v, e, hs⟩, _⟩ := h.get 0 rfl
  subst e
  exact ⟨v, rfl, h.trade1 rfl (fun h => ⟨by obtain ⟨u, e, hs⟩ := h.1; cases e; exact hs.v, h.2⟩)⟩

/-! ### A box within a block: cells ahead of it and behind it. -/
theorem splice_nil : ∀ (C : List Value) (o : Nat), splice C o [] = C
  | [], 0 => rfl
  | [], _ + 1 => rfl
  | c :: C, 0 => rfl
  | c :: C, o + 1 => by show c :: splice C o [] = c :: C; rw [splice_nil C o]
theorem splice_left : ∀ (cs post vs : List Value) (j : Nat), j + vs.length ≤ cs.length → splice (cs ++ post) j vs = splice cs j vs ++ post
  | cs, post, [], j, h => by rw [splice_nil, splice_nil]
  | [], post, v :: vs, j, h => by simp at h
  | c :: cs, post, v :: vs, 0, h => by
    show v :: splice (cs ++ post) 0 vs = v :: (splice cs 0 vs ++ post)
    rw [splice_left cs post vs 0 (by simpa using h)]
  | c :: cs, post, v :: vs, j + 1, h => by
    show c :: splice (cs ++ post) j (v :: vs) = c :: (splice cs j (v :: vs) ++ post)
    rw [splice_left cs post (v :: vs) j (by simp at h ⊢; omega)]
theorem splice_mid : ∀ (pre cs post vs : List Value) (j : Nat), j + vs.length ≤ cs.length → splice (pre ++ cs ++ post) (pre.length + j) vs = pre ++ splice cs j vs ++ post
  | [], cs, post, vs, j, h => by
    simp only [List.nil_append, List.length_nil, Nat.zero_add]
    exact splice_left cs post vs j h
  | p :: pre, cs, post, vs, j, h => by
    have e : (p :: pre).length + j = (pre.length + j) + 1 := by simp; omega
    rw [e]
    show p :: splice (pre ++ cs ++ post) (pre.length + j) vs = p :: (pre ++ splice cs j vs ++ post)
    rw [splice_mid pre cs post vs j h]
theorem splice_len : ∀ (C vs : List Value) (o : Nat), (splice C o vs).length = C.length
  | [], vs, o => by cases o <;> cases vs <;> rfl
  | c :: C, [], 0 => rfl
  | c :: C, v :: vs, 0 => by show (splice C 0 vs).length + 1 = _; rw [splice_len C vs 0]; rfl
  | c :: C, vs, o + 1 => by show (splice C o vs).length + 1 = _; rw [splice_len C vs o]; rfl
section
variable {P : Program} {n : Nat} {f : Nat → Value} {W w0 : World} {rs : List Res} {Q : Exit → Act → World → Prop} {K : Value → World → Prop}
  {d : Option Tmp} {ty : TypeId} {pos : String} {af : Array Go.Edge} {g : Option (Nat × Bool)}
theorem bp_range {b : Nat} {pre C post : List Value} {t : TypeId} (hB : (Res.bx b (pre ++ C ++ post) t).holds W) : W.rangeAt b pre.length C := by
  intro j v hj
  have hr := range_of_heap hB (pre.length + j) v
  rw [Nat.zero_add] at hr
  refine hr ?_
  rw [List.append_assoc, List.getElem?_append_right (by omega), Nat.add_sub_cancel_left, List.getElem?_append_left ((List.getElem?_eq_some_iff.1 hj).1)]
  exact hj
theorem stp_load_bp {t t' : TypeId} {α : Type} [Shape α] [Agg α] {x : Operand} {b o i : Nat} {pre C post : List Value} {v : Value} (hT : TyOk P t α) (ha : Agg.agg α = false) (hx : ev n f x = .pointer (some ⟨b, o, none⟩)) (hB : (Res.bx b (pre ++ C ++ post) t').holds W) (ho : o = pre.length + i) (hv : C[i]? = some v) (k : K v W) :
    Stp P n ⟨d, .load t x, ty, pos, af, g⟩ f W Q K :=
  stp_load_rg hT ha hx (bp_range hB) (Below.refl _ _) ho hv k
theorem stp_load_bps {t t' : TypeId} {α : Type} [Shape α] [Agg α] {x : Operand} {b o i : Nat} {pre C post cs : List Value} (hT : TyOk P t α) (ha : Agg.agg α = true) (hx : ev n f x = .pointer (some ⟨b, o, none⟩)) (hB : (Res.bx b (pre ++ C ++ post) t').holds W) (ho : o = pre.length + i) (hv : (C.drop i).take (Shape.size α) = cs) (hl : cs.length = Shape.size α) (k : K (.agg cs.toArray) W) :
    Stp P n ⟨d, .load t x, ty, pos, af, g⟩ f W Q K :=
  stp_load_rgs hT ha hx (bp_range hB) (Below.refl _ _) ho hv hl k
theorem stp_load_bpa {t t' : TypeId} {α : Type} [Shape α] [Agg α] {x : Operand} {b o : Nat} {pre C post : List Value} (hT : TyOk P t α) (ha : Agg.agg α = true) (hx : ev n f x = .pointer (some ⟨b, o, none⟩)) (hB : (Res.bx b (pre ++ C ++ post) t').holds W) (ho : o = pre.length) (hl : C.length = Shape.size α) (k : K (.agg C.toArray) W) :
    Stp P n ⟨d, .load t x, ty, pos, af, g⟩ f W Q K :=
  stp_load_bps (i := 0) hT ha hx hB ho (by rw [List.drop_zero, List.take_of_length_le (by omega)]) hl k
theorem stp_store_bps {t t' : TypeId} {x y : Operand} {b o i : Nat} {pre cs C C' post : List Value} (hi : (P.info? t).map (·.size) = some cs.length) (hx : ev n f x = .pointer (some ⟨b, o, none⟩)) (hy : ev n f y = .agg cs.toArray) (h1 : ∀ v ∈ cs, v.oneCell' = true)
    (hst : St w0 W (Res.bx b (pre ++ C ++ post) t' :: rs)) (ho : o = pre.length + i) (hle : i + cs.length ≤ C.length) (hC : splice C i cs = C') (k : ∀ W', St w0 W' (Res.bx b (pre ++ C' ++ post) t' :: rs) → K undef W') :
    Stp P n ⟨d, .store t x y, ty, pos, af, g⟩ f W Q K :=
  stp_store_agg hi hx hy h1 hst (by subst ho; simp; omega) (by subst ho; rw [splice_mid _ _ _ _ _ hle, hC]) k
theorem stp_store_bpa {α : Type} [Shape α] [Agg α] {t t' : TypeId} {x y : Operand} {b o : Nat} {pre cs C post : List Value} {w : World} {z : α} {fp : List Nat} (hT : TyOk P t α) (hc : Shape.C w cs z fp) (hx : ev n f x = .pointer (some ⟨b, o, none⟩)) (hy : ev n f y = .agg cs.toArray)
    (hst : St w0 W (Res.bx b (pre ++ C ++ post) t' :: rs)) (ho : o = pre.length) (hl : C.length = Shape.size α) (k : ∀ W', St w0 W' (Res.bx b (pre ++ cs ++ post) t' :: rs) → K undef W') :
    Stp P n ⟨d, .store t x y, ty, pos, af, g⟩ f W Q K :=
  stp_store_bps (i := 0) (by rw [Shape.len hc]; exact hT.size) hx hy (Shape.one hc) hst ho (by rw [Shape.len hc, hl]; omega) (splice_all C cs (by rw [Shape.len hc, hl])) k
theorem stp_store_bp {t t' : TypeId} {x y : Operand} {b o i : Nat} {v : Value} {pre C C' post : List Value} (hi : (P.info? t).map (·.size) = some 1) (hx : ev n f x = .pointer (some ⟨b, o, none⟩)) (hy : ev n f y = v) (h1 : v.cells = #[v]) (h2 : v.oneCell' = true)
    (hst : St w0 W (Res.bx b (pre ++ C ++ post) t' :: rs)) (ho : o = pre.length + i) (hle : i + 1 ≤ C.length) (hC : splice C i [v] = C') (k : ∀ W', St w0 W' (Res.bx b (pre ++ C' ++ post) t' :: rs) → K undef W') :
    Stp P n ⟨d, .store t x y, ty, pos, af, g⟩ f W Q K :=
  stp_store_one hi hx hy h1 h2 hst (by subst ho; simp; omega) (by subst ho; rw [splice_mid _ _ _ _ _ (by simpa using hle), hC]) k
end
end Go.Proofs.YtchnllpegfbleaaDoor

/-
  A region that draws its order, some operations of which write, one behind the other, a box that no other looks at.
-/
namespace Go.Proofs.YtchnllpegfbleaaDoor
set_option linter.unusedSimpArgs false
set_option linter.unusedVariables false
open Go.RowKit

section
variable {P : Program} {n : Nat} {w0 : World} {rs : List Res} {Q : Exit → Act → World → Prop}
def FixAll : List Pl → Prop
  | [] => True
  | q :: qs => (∀ v W W', q.p v W → q.p v W') ∧ FixAll qs
theorem FixAll.get : ∀ {F : List Pl}, FixAll F → ∀ i v W W', (F.getD i Pl.off).p v W → (F.getD i Pl.off).p v W'
  | [], _, _, _, _, _, h => h
  | q :: qs, hf, 0, v, W, W', h => hf.1 v W W' h
  | q :: qs, hf, i + 1, v, W, W', h => FixAll.get (F := qs) hf.2 i v W W' h
/-- The place of number i among the writers. -/
def wix : List Nat → Nat → Nat → Option Nat
  | [], _, _ => none
  | w :: ws, i, q => cond (Nat.beq i w) (some q) (wix ws i (q + 1))
theorem wix_some : ∀ {ws : List Nat} {i q k : Nat}, wix ws i q = some k → ∃ j : Nat, k = q + j ∧ ws[j]? = some i
  | w :: ws, i, q, k, h => by
    unfold wix at h
    cases hb : Nat.beq i w with
    | true =>
      rw [hb] at h
      simp only [cond_true, Option.some.injEq] at h
      exact ⟨0, h.symm, by rw [Nat.eq_of_beq_eq_true hb]; rfl⟩
    | false =>
      rw [hb] at h
      simp only [cond_false] at h
      obtain ⟨j, h1, h2⟩ := wix_some h
      exact ⟨j + 1, by omega, by simpa using h2⟩
theorem wix_none : ∀ {ws : List Nat} {i q : Nat}, wix ws i q = none → ∀ j : Nat, ws[j]? ≠ some i
  | [], i, q, _, j => by simp
  | w :: ws, i, q, h, j => by
    unfold wix at h
    cases hb : Nat.beq i w with
    | true => rw [hb] at h; simp at h
    | false =>
      rw [hb] at h
      simp only [cond_false] at h
      cases j with
      | zero => intro e; simp at e; subst e; rw [beq_self] at hb; cases hb
      | succ j => simpa using wix_none h j
/-- The writers stand in the region, and each waits for those ahead of it. -/
def wsOk (l : List Oper) (ws : List Nat) : Bool :=
  (List.range ws.length).all (fun q => Nat.blt (ws.getD q 0) l.length && (List.range q).all (fun p => dep l (ws.getD q 0) (ws.getD p 0) && !Nat.beq (ws.getD q 0) (ws.getD p 0)))
structure WsOk (l : List Oper) (ws : List Nat) : Prop where
  lt : ∀ q i : Nat, ws[q]? = some i → i < l.length
  dep : ∀ q p i j : Nat, ws[q]? = some i → ws[p]? = some j → p < q → Go.Proofs.YtchnllpegfbleaaDoor.dep l i j = true
  ne : ∀ q p i : Nat, ws[q]? = some i → ws[p]? = some i → p = q
theorem WsOk.of {l : List Oper} {ws : List Nat} (h : wsOk l ws = true) : WsOk l ws := by
  unfold wsOk at h
  rw [List.all_eq_true] at h
  have key : ∀ q i : Nat, ws[q]? = some i → Nat.blt i l.length = true ∧ ∀ p j : Nat, p < q → ws[p]? = some j → Go.Proofs.YtchnllpegfbleaaDoor.dep l i j = true ∧ Nat.beq i j = false := by
    intro q i hq
    have hl := (List.getElem?_eq_some_iff.1 hq).1
    have h1 := h q (by simpa using hl)
    have e : ws.getD q 0 = i := by rw [List.getD_eq_getElem?_getD, hq]; rfl
    rw [e, Bool.and_eq_true, List.all_eq_true] at h1
    refine ⟨h1.1, fun p j hp hj => ?_⟩
    have h2 := h1.2 p (by simpa using hp)
    have e2 : ws.getD p 0 = j := by rw [List.getD_eq_getElem?_getD, hj]; rfl
    rw [e2, Bool.and_eq_true] at h2
    exact ⟨h2.1, by simpa using h2.2⟩
  refine ⟨fun q i hq => blt_lt (key q i hq).1, fun q p i j hq hp hlt => ((key q i hq).2 p j hlt hp).1, ?_⟩
  intro q p i hq hp
  rcases Nat.lt_trichotomy p q with hlt | he | hgt
  · have := ((key q i hq).2 p i hlt hp).2
    rw [beq_self] at this; cases this
  · exact he
  · have := ((key p i hp).2 q i hgt hq).2
    rw [beq_self] at this; cases this
/-- What is to be shown of number i; the writers turn R 0 into R 1, that into R 2 .. -/
def StepW (P : Program) (n : Nat) (w0 : World) (rs : List Res) (Q : Exit → Act → World → Prop) (ws : List Nat) (R : Nat → Res) (l : List Oper) (F : List Pl) (f0 : Nat → Value) (i : Nat) (o : Oper) (p : Pl) : Prop :=
  match wix ws i 0 with
  | some q => onOf l F o = true ∧ ∀ f W, St w0 W (R q :: rs) → (∀ j d, dep l i j = true → dstOf l j = some d → (F.getD j Pl.off).p (f d) W) → (∀ t, keepAt l i t = true → f t = f0 t) → Stp P n o f W Q (fun v W' => St w0 W' (R (q + 1) :: rs) ∧ p.p v W')
  | none => ∀ f W r, St w0 W (r :: rs) → (∀ j d, dep l i j = true → dstOf l j = some d → (F.getD j Pl.off).p (f d) W) → (∀ t, keepAt l i t = true → f t = f0 t) →
      cond (onOf l F o) (Stp P n o f W Q (fun v W' => St w0 W' (r :: rs) ∧ p.p v W')) (p.p undef W)
def AllW (P : Program) (n : Nat) (w0 : World) (rs : List Res) (Q : Exit → Act → World → Prop) (ws : List Nat) (R : Nat → Res) (l : List Oper) (F : List Pl) (f0 : Nat → Value) : Nat → List Oper → List Pl → Prop
  | _, [], [] => True
  | i, o :: os, p :: ps => StepW P n w0 rs Q ws R l F f0 i o p ∧ AllW P n w0 rs Q ws R l F f0 (i + 1) os ps
  | _, _, _ => False
theorem AllW.get {ws : List Nat} {R : Nat → Res} {l : List Oper} {F : List Pl} {f0 : Nat → Value} : ∀ {os : List Oper} {ps : List Pl} {k : Nat}, AllW P n w0 rs Q ws R l F f0 k os ps → ∀ i o, os[i]? = some o → ∃ p, ps[i]? = some p ∧ StepW P n w0 rs Q ws R l F f0 (k + i) o p
  | o :: os, p :: ps, k, h, 0, o', hi => by simp at hi; subst hi; exact ⟨p, rfl, h.1⟩
  | o :: os, p :: ps, k, h, i + 1, o', hi => by
    obtain ⟨q, hq, hs⟩ := AllW.get h.2 i o' (by simpa using hi)
    exact ⟨q, by simpa using hq, by rw [← Nat.add_assoc, Nat.add_right_comm]; exact hs⟩
  | [], _, _, _, i, o', hi => by simp at hi
  | o :: os, [], _, h, _, _, _ => h.elim
structure InvW (w0 : World) (rs : List Res) (ws : List Nat) (R : Nat → Res) (l : List Oper) (m : Nat) (F : List Pl) (f0 : Nat → Value) (L : Array Bool) (f : Nat → Value) (W : World) : Prop where
  size : L.size = l.length + m
  tail : ∀ i, l.length ≤ i → i < L.size → L[i]? = some false
  ex : ∃ c, c ≤ ws.length ∧ (∀ q i : Nat, ws[q]? = some i → (L[i]? = some true ↔ q < c)) ∧ St w0 W (R c :: rs)
  vals : ∀ i d, i < l.length → L[i]? = some true → dstOf l i = some d → (F.getD i Pl.off).p (f d) W
  keep : ∀ t, (∀ i, i < l.length → L[i]? = some true → dstOf l i ≠ some t) → f t = f0 t
  down : ∀ i j, i < l.length → L[i]? = some true → dep l i j = true → L[j]? = some true
theorem any_mainW {ws : List Nat} {R : Nat → Res} {l tl : List Oper} {F : List Pl} {f0 : Nat → Value} (ho : OrdOk n l) (hws : WsOk l ws) (hfx : FixAll F) (hs : AllW P n w0 rs Q ws R l F f0 0 l F)
    (ht : ∀ i o, l.length ≤ i → (l ++ tl)[i]? = some o → (∃ j, l.length ≤ j ∧ dep (l ++ tl) i j = true) ∨ ∀ j, j < l.length → dep (l ++ tl) i j = true ∨ ∃ m, j < m ∧ m < l.length ∧ dep l m j = true)
    (fin : ∀ fuel L f W, tl.length ≤ fuel → (∀ i, i < l.length → L[i]? = some true) → InvW w0 rs ws R l tl.length F f0 L f W → wpAny P .any (l ++ tl).toArray Q fuel L (act n f) W) :
    ∀ fuel L f W, InvW w0 rs ws R l tl.length F f0 L f W → (L.toList.countP (fun b => !b)) ≤ fuel → wpAny P .any (l ++ tl).toArray Q fuel L (act n f) W := by
  intro fuel
  induction fuel with
  | zero =>
    intro L f W hI hc
    have hall : ∀ i, i < L.size → L[i]? = some true := by
      intro i hi
      have h0 : L.toList.countP (fun b => !b) = 0 := by omega
      rw [List.countP_eq_zero] at h0
      have := h0 L[i] (by simp)
      rw [Array.getElem?_eq_getElem hi]
      simpa using this
    have htl : tl.length = 0 := by
      by_cases h : tl.length = 0
      · exact h
      · have h1 := hI.tail l.length (Nat.le_refl _) (by rw [hI.size]; omega)
        have h2 := hall l.length (by rw [hI.size]; omega)
        rw [h1] at h2; cases h2
    exact fin 0 L f W (by omega) (fun i hi => hall i (by rw [hI.size]; omega)) hI
  | succ fuel ih =>
    intro L f W hI hc
    by_cases hall : ∀ i, i < l.length → L[i]? = some true
    · refine fin (fuel + 1) L f W ?_ hall hI
      have : tl.length ≤ L.toList.countP (fun b => !b) := by
        have e : L.toList = L.toList.take l.length ++ L.toList.drop l.length := (List.take_append_drop _ _).symm
        rw [e, List.countP_append]
        have : (L.toList.drop l.length).countP (fun b => !b) = (L.toList.drop l.length).length := by
          rw [List.countP_eq_length]
          intro b hb
          obtain ⟨j, hj⟩ := List.mem_iff_getElem?.1 hb
          rw [List.getElem?_drop, Array.getElem?_toList] at hj
          have hlt : l.length + j < L.size := (Array.getElem?_eq_some_iff.1 hj).1
          rw [hI.tail _ (by omega) hlt] at hj
          cases hj; rfl
        rw [this, List.length_drop]
        have h3 := hI.size
        have h4 : L.toList.length = L.size := Array.length_toList
        omega
      omega
    · -- the least that has not come up
      have hex : ∃ i, i < l.length ∧ L[i]? = some false := by
        apply Classical.byContradiction
        intro hn
        apply hall
        intro i hi
        cases h : L[i]? with
        | none => rw [Array.getElem?_eq_none_iff, hI.size] at h; omega
        | some b =>
          cases b
          · exact absurd ⟨i, hi, h⟩ hn
          · rfl
      obtain ⟨i0, ⟨hi0, hf0⟩, hmin⟩ := least hex
      have hlen : (l ++ tl).length = l.length + tl.length := List.length_append
      have hready : i0 ∈ Region.ready .any (l ++ tl).toArray L := by
        unfold Region.ready
        rw [List.mem_filter]
        obtain ⟨o, hoo⟩ : ∃ o, l[i0]? = some o := ⟨_, List.getElem?_eq_getElem hi0⟩
        have hoo' : (l ++ tl)[i0]? = some o := by rw [List.getElem?_append_left hi0]; exact hoo
        refine ⟨by rw [List.mem_range, List.size_toArray, hlen]; omega, ?_⟩
        rw [Array.getD_eq_getD_getElem?, hf0]
        simp only [Option.getD_some, Bool.not_false, Bool.true_and, List.getElem?_toArray, hoo', Option.map_some]
        rw [Array.all_eq_true_iff_forall_mem]
        intro e he
        by_cases hb : Region.binds .any e = true
        · have hd := dep_of hoo he hb
          have hj := ho.lt i0 e.on hi0 hd
          have : L[e.on]? = some true := by
            cases h : L[e.on]? with
            | none => rw [Array.getElem?_eq_none_iff, hI.size] at h; omega
            | some b =>
              cases b
              · have := hmin e.on ⟨by omega, h⟩; omega
              · rfl
          rw [getD_t.2 this]; simp
        · simp only [Bool.not_eq_true] at hb
          rw [hb]; rfl
      refine ⟨fun h => (by rw [h] at hready; cases hready), ?_⟩
      intro i hi
      unfold Region.ready at hi
      rw [List.mem_filter, List.mem_range, List.size_toArray, hlen] at hi
      obtain ⟨hilt, hi⟩ := hi
      obtain ⟨o, hoo⟩ : ∃ o, (l ++ tl)[i]? = some o := ⟨_, List.getElem?_eq_getElem (by rw [hlen]; exact hilt)⟩
      simp only [List.getElem?_toArray, hoo, Option.map_some, Option.getD_some, Bool.and_eq_true, Bool.not_eq_true'] at hi
      obtain ⟨hun, hdep⟩ := hi
      have hun' : L[i]? = some false := by
        rw [Array.getD_eq_getD_getElem?] at hun
        cases h : L[i]? with
        | none => rw [h] at hun; cases hun
        | some b => rw [h] at hun; simp at hun; rw [hun]
      rw [Array.all_eq_true_iff_forall_mem] at hdep
      have hdep' : ∀ e ∈ o.after, Region.binds .any e = true → L[e.on]? = some true := by
        intro e he hb
        have := hdep e he
        rw [hb] at this
        exact getD_t.1 (by simpa using this)
      have hiN : i < l.length := by
        by_cases h : i < l.length
        · exact h
        · exfalso
          rcases ht i o (by omega) hoo with ⟨j, hj, hd⟩ | hcov
          · obtain ⟨e, he, heq, hb⟩ := of_dep hoo hd
            have h1 := hdep' e he hb
            rw [heq] at h1
            rw [hI.tail j hj (Array.getElem?_eq_some_iff.1 h1).1] at h1
            cases h1
          · have key : ∀ m j, l.length - j = m → j < l.length → L[j]? = some true := by
              intro m
              induction m using Nat.strongRecOn with
              | _ m ihm =>
                intro j hm hj
                rcases hcov j hj with hd | ⟨m', h1, h2, h3⟩
                · obtain ⟨e, he, heq, hb⟩ := of_dep hoo hd
                  rw [← heq]; exact hdep' e he hb
                · exact hI.down m' j h2 (ihm (l.length - m') (by omega) m' rfl h2) h3
            have := key _ i0 rfl hi0
            rw [hf0] at this
            cases this
      have hol : l[i]? = some o := by rw [List.getElem?_append_left hiN] at hoo; exact hoo
      obtain ⟨p, hp, hstep⟩ := hs.get i o hol
      rw [Nat.zero_add] at hstep
      have hpF : F.getD i Pl.off = p := by rw [List.getD_eq_getElem?_getD, hp]; rfl
      have hdl : ∀ j, dep l i j = true → L[j]? = some true := by
        intro j hj
        obtain ⟨e, he, heq, hb⟩ := of_dep hol hj
        rw [← heq]; exact hdep' e he hb
      have hdp : ∀ j d, dep l i j = true → dstOf l j = some d → (F.getD j Pl.off).p (f d) W := (fun j d hj hd => hI.vals j d (by have := ho.lt i j hiN hj; omega) (hdl j hj) hd)
      have hkp : ∀ t, keepAt l i t = true → f t = f0 t := (fun t hk => by
        refine hI.keep t (fun j hjN hj hd => ?_)
        unfold keepAt at hk
        rw [List.all_eq_true] at hk
        have := hk j (by simpa using hjN)
        rw [hd] at this
        simp only [beq_self, Bool.not_true, Bool.or_false, Bool.or_eq_true] at this
        rcases this with h | h
        · rw [Nat.eq_of_beq_eq_true h, hun'] at hj; cases hj
        · have := hI.down j i hjN hj h
          rw [hun'] at this; cases this)
      have next : ∀ v W', (∃ c, c ≤ ws.length ∧ (∀ q j : Nat, ws[q]? = some j → ((L.setIfInBounds i true)[j]? = some true ↔ q < c)) ∧ St w0 W' (R c :: rs)) → p.p v W' → wpAny P .any (l ++ tl).toArray Q fuel (L.setIfInBounds i true) (act n (putF f o.dst v)) W' := by
        intro v W' hex hv
        have hdo : dstOf l i = o.dst := by simp [dstOf, hol]
        have hsz : i < L.size := (Array.getElem?_eq_some_iff.1 hun').1
        have hother : ∀ j, j ≠ i → (L.setIfInBounds i true)[j]? = L[j]? := fun j hj => by rw [Array.getElem?_setIfInBounds, if_neg (fun e => hj e.symm)]
        have hself : (L.setIfInBounds i true)[i]? = some true := by rw [Array.getElem?_setIfInBounds]; simp [hsz]
        refine ih _ _ _ ⟨by simpa using hI.size, ?_, hex, ?_, ?_, ?_⟩ ?_
        · intro j hj hjs
          rw [hother j (by omega)]
          exact hI.tail j hj (by simpa using hjs)
        · intro j d hj hl hd
          by_cases e : j = i
          · subst e
            rw [hpF]
            rw [hdo] at hd
            rw [hd]
            simp only [putF, upd, beq_self, cond_true]
            exact hv
          · rw [hother j e] at hl
            have hold := hI.vals j d hj hl hd
            have : putF f o.dst v d = f d := by
              cases hod : o.dst with
              | none => rfl
              | some d' =>
                simp only [putF, upd]
                rw [beq_f (fun e' => ho.ne j i d hj hiN e hd (by rw [hdo, hod, e']))]; rfl
            rw [this]
            exact hfx.get j _ _ _ hold
        · intro t hk
          have hne : o.dst ≠ some t := by rw [← hdo]; exact hk i hiN hself
          have : putF f o.dst v t = f t := by
            cases hod : o.dst with
            | none => rfl
            | some d' =>
              simp only [putF, upd]
              rw [beq_f (fun e' => hne (by rw [hod, e']))]; rfl
          rw [this]
          refine hI.keep t (fun j hj hl => ?_)
          by_cases e : j = i
          · subst e; rw [hdo]; exact hne
          · exact hk j hj (by rw [hother j e]; exact hl)
        · intro j k hj hl hd
          by_cases e : j = i
          · subst e
            have hk := hdl k hd
            by_cases e2 : k = j
            · subst e2; exact hself
            · rw [hother k e2]; exact hk
          · rw [hother j e] at hl
            have hk := hI.down j k hj hl hd
            by_cases e2 : k = i
            · subst e2; exact hself
            · rw [hother k e2]; exact hk
        · have hcount : (L.setIfInBounds i true).toList.countP (fun b => !b) + 1 = L.toList.countP (fun b => !b) := by
            rw [Array.toList_setIfInBounds]
            have hget : L.toList[i]? = some false := by rw [Array.getElem?_toList]; exact hun'
            exact count_set _ _ hget
          omega
      unfold wpOp
      simp only [List.getElem?_toArray, hoo]
      have hw : Region.wanted o (yielded (l ++ tl).toArray (act n f).tmps) = onOf l F o := by
        unfold Region.wanted onOf
        cases hg : o.guard with
        | none => rfl
        | some jw =>
          obtain ⟨j, w⟩ := jw
          obtain ⟨hd, dd, hdd⟩ := ho.guard i o j w hol hg
          have hjN : j < l.length := by have := ho.lt i j hiN hd; omega
          have hv := hI.vals j dd hjN (hdl j hd) hdd
          have hy := (F.getD j Pl.off).yld hv
          have hdn := ho.dst j dd hjN hdd
          have : yielded (l ++ tl).toArray (act n f).tmps j = (F.getD j Pl.off).b := by
            rw [← hy]
            unfold yielded
            have e1 : (((l ++ tl).toArray[j]?).bind (·.dst)) = some dd := by
              rw [List.getElem?_toArray, List.getElem?_append_left hjN]; exact hdd
            rw [e1]
            simp only [Option.bind_some]
            have e2 : (act n f).tmps[dd]? = some (f dd) := by simp [act, hdn]
            rw [e2]
            cases f dd <;> rfl
          simp only [this]
      rw [hw]
      obtain ⟨c, hc, hiff, hst⟩ := hI.ex
      have hsz : i < L.size := (Array.getElem?_eq_some_iff.1 hun').1
      have hother : ∀ j, j ≠ i → (L.setIfInBounds i true)[j]? = L[j]? := fun j hj => by rw [Array.getElem?_setIfInBounds, if_neg (fun e => hj e.symm)]
      have hself : (L.setIfInBounds i true)[i]? = some true := by rw [Array.getElem?_setIfInBounds]; simp [hsz]
      unfold StepW at hstep
      cases hq : wix ws i 0 with
      | some q =>
        rw [hq] at hstep
        simp only at hstep
        obtain ⟨j, e1, e2⟩ := wix_some hq
        have e1 : q = j := by omega
        subst e1
        have hcq : c = q := by
          have h1 : ¬ q < c := fun h => by rw [(hiff q i e2).2 h] at hun'; cases hun'
          have h2 : ¬ c < q := fun h => by
            obtain ⟨j, hj⟩ : ∃ j, ws[c]? = some j := ⟨_, List.getElem?_eq_getElem (by have := (List.getElem?_eq_some_iff.1 e2).1; omega)⟩
            have hd := hws.dep q c i j e2 hj h
            have := (hiff c j hj).1 (hdl j hd)
            omega
          omega
        subst hcq
        have hc1 : c + 1 ≤ ws.length := by have := (List.getElem?_eq_some_iff.1 e2).1; omega
        have hc2 : ∀ q' j : Nat, ws[q']? = some j → ((L.setIfInBounds i true)[j]? = some true ↔ q' < c + 1) := by
          intro q' j hj
          by_cases e : j = i
          · subst e
            have := hws.ne c q' j e2 hj
            subst this
            rw [hself]
            exact ⟨fun _ => Nat.lt_succ_self _, fun _ => rfl⟩
          · rw [hother j e, hiff q' j hj]
            constructor
            · intro h; omega
            · intro h
              have : q' ≠ c := fun e' => e (by subst e'; rw [hj] at e2; exact Option.some.inj e2)
              omega
        rw [hstep.1]
        simp only [if_true]
        exact .inl (Oper.wp_mono (fun a' w' ⟨v, e, hb, hv⟩ => by rw [e]; exact next v w' ⟨c + 1, hc1, hc2, hb⟩ hv) (hstep.2 f W hst hdp hkp).out)
      | none =>
        rw [hq] at hstep
        simp only at hstep
        have hni := wix_none hq
        have hex : ∀ W', St w0 W' (R c :: rs) → ∃ c, c ≤ ws.length ∧ (∀ q j : Nat, ws[q]? = some j → ((L.setIfInBounds i true)[j]? = some true ↔ q < c)) ∧ St w0 W' (R c :: rs) := fun W' h =>
          ⟨c, hc, fun q j hj => by rw [hother j (fun e => hni q (by rw [← e]; exact hj))]; exact hiff q j hj, h⟩
        have h1 := hstep f W (R c) hst hdp hkp
        cases hon : onOf l F o with
        | true =>
          rw [hon] at h1
          simp only [cond_true] at h1
          simp only [if_true]
          exact .inl (Oper.wp_mono (fun a' w' ⟨v, e, hb, hv⟩ => by rw [e]; exact next v w' (hex w' hb) hv) h1.out)
        | false =>
          rw [hon] at h1
          simp only [cond_false] at h1
          simp only [Bool.false_eq_true, if_false]
          rw [act_put]
          exact next undef W (hex W hst) h1

theorem inv_startW {ws : List Nat} {R : Nat → Res} {l : List Oper} {m : Nat} {F : List Pl} {f0 : Nat → Value} {W : World} (hst : St w0 W (R 0 :: rs)) : InvW w0 rs ws R l m F f0 (Array.replicate (l.length + m) false) f0 { W with drawn := W.drawn + 1 } := by
  have hb : Below W.heap.size W { W with drawn := W.drawn + 1 } := (Below.refl _ _).drew
  have hno : ∀ i : Nat, (Array.replicate (l.length + m) false)[i]? ≠ some true := by
    intro i h
    rw [Array.getElem?_replicate] at h
    split at h <;> cases h
  refine ⟨by simp, ?_, ⟨0, Nat.zero_le _, fun q i _ => ⟨fun h => absurd h (hno i), fun h => by omega⟩, by simpa using hst.call (St.of_below hb)⟩, ?_, fun _ _ => rfl, ?_⟩
  · intro i _ h
    rw [Array.getElem?_replicate, if_pos (by simpa using h)]
  · intro i d _ h; exact absurd h (hno i)
  · intro i j _ h; exact absurd h (hno i)
theorem sx_anyWT {id : Nat} {l : List Oper} (tl : List Oper) (ws : List Nat) (R : Nat → Res) {W : World} {f0 : Nat → Value} (F : List Pl) (hm : P.follows .mixedOrders = true) (ho : ordOk n l = true) (hT : tailOk l tl = true) (hiw : wsOk l ws = true)
    (hst : St w0 W (R 0 :: rs)) (hfx : FixAll F) (hs : AllW P n w0 rs Q ws R l F f0 0 l F)
    (fin : ∀ f W', St w0 W' (R ws.length :: rs) → (∀ i d, i < l.length → dstOf l i = some d → (F.getD i Pl.off).p (f d) W') → (∀ t, keepAll l t = true → f t = f0 t) → Wl P (l ++ tl).toArray Q tl n f W') :
    (Code.region id (l ++ tl).toArray true).wp P Q (act n f0) W := by
  refine wp_region_any hm ?_
  have h := any_mainW (ws := ws) (R := R) (tl := tl) (OrdOk.of ho) (WsOk.of hiw) hfx hs (tail_ht hT) ?_ (l.length + tl.length) (Array.replicate (l.length + tl.length) false) f0 { W with drawn := W.drawn + 1 } (inv_startW hst) ?_
  · simpa using h
  · intro fuel L f W' hfuel hall hI
    have hall2 : St w0 W' (R ws.length :: rs) := by
      obtain ⟨c, hc, hiff, hst⟩ := hI.ex
      have : c = ws.length := by
        apply Classical.byContradiction
        intro hne
        obtain ⟨j, hj⟩ : ∃ j, ws[c]? = some j := ⟨_, List.getElem?_eq_getElem (by omega)⟩
        have := (hiff c j hj).1 (hall j ((WsOk.of hiw).lt c j hj))
        omega
      rw [← this]; exact hst
    have hf := fin f W' hall2 (fun i d hi hd => hI.vals i d hi (hall i hi) hd) (fun t ht => hI.keep t (fun i hi _ => keepAll_ne ht i hi))
    exact any_tail hT tl.length 0 fuel L _ W' (by omega) (Nat.zero_le _) hfuel hI.size (fun j hj => hall j (by omega)) (fun j hj hjs => hI.tail j (by omega) hjs) (by simpa using hf.out)
  · have := List.countP_le_length (p := fun b => !b) (l := (Array.replicate (l.length + tl.length) false).toList)
    simpa using this
theorem sx_anyW {id : Nat} {l : List Oper} (k : Nat) (ws : List Nat) (R : Nat → Res) {W : World} {f0 : Nat → Value} (F : List Pl) (hm : P.follows .mixedOrders = true) (ho : ordOk n (l.take k) = true) (hT : tailOk (l.take k) (l.drop k) = true) (hiw : wsOk (l.take k) ws = true)
    (hst : St w0 W (R 0 :: rs)) (hfx : FixAll F) (hs : AllW P n w0 rs Q ws R (l.take k) F f0 0 (l.take k) F)
    (fin : ∀ f W', St w0 W' (R ws.length :: rs) → (∀ i d, i < (l.take k).length → dstOf (l.take k) i = some d → (F.getD i Pl.off).p (f d) W') → (∀ t, keepAll (l.take k) t = true → f t = f0 t) → Wl P l.toArray Q (l.drop k) n f W') :
    (Code.region id l.toArray true).wp P Q (act n f0) W := by
  have h := sx_anyWT (id := id) (l := l.take k) (l.drop k) ws R F hm ho hT hiw hst hfx hs (by rw [List.take_append_drop]; exact fin)
  rwa [List.take_append_drop] at h
end
end Go.Proofs.YtchnllpegfbleaaDoor

/-
  Literals of several elements; flat structs compared.
-/
namespace Go.Proofs.YtchnllpegfbleaaDoor
set_option linter.unusedSimpArgs false
set_option linter.unusedVariables false
set_option maxRecDepth 100000
open Go.RowKit

def litFrom (k : Nat) : List Value → List (Nat × Value)
  | [] => []
  | v :: vs => (k, v) :: litFrom (k + 1) vs
def OneCells : List Value → Prop
  | [] => True
  | v :: vs => v.cells = #[v] ∧ OneCells vs
theorem lc_nil : OneCells [] := trivial
theorem lc_cons {v : Value} {vs : List Value} (h : v.cells = #[v]) (hs : OneCells vs) : OneCells (v :: vs) := ⟨h, hs⟩
theorem fill_lit : ∀ (vs : List Value) (k : Nat) (A : Array Value), k + vs.length = A.size → OneCells vs → Instr.fill (fun j => some (j * 1, 1)) A (litFrom k vs) = some (A.extract 0 k ++ vs.toArray)
  | [], k, A, h, _ => by
    simp at h
    simp only [litFrom, Instr.fill]
    congr 1
    simp [h]
  | v :: vs, k, A, h, ⟨h1, h2⟩ => by
    simp only [List.length_cons] at h
    have hs1 : v.cells.size = 1 := by rw [h1]; rfl
    have hc : ¬ (v.cells.size ≠ 1 ∨ k * 1 + v.cells.size > A.size) := by omega
    simp only [litFrom, Instr.fill]
    simp only [Bool.or_eq_true, decide_eq_true_eq] at hc ⊢
    rw [if_neg (by simpa using hc)]
    have hf : (v.cells.zipIdx.foldl (fun acc (x : Value × Nat) => acc.setIfInBounds (k * 1 + x.2) x.1) A) = A.setIfInBounds k v := by
      rw [h1, Nat.mul_one]
      rfl
    rw [hf, fill_lit vs (k + 1) _ (by simp; omega) h2]
    congr 1
    have e1 : (A.setIfInBounds k v).extract 0 (k + 1) = A.extract 0 k ++ #[v] := by
      apply Array.ext'
      have ho : k < A.toList.length := by rw [Array.length_toList]; omega
      simp only [Array.toList_extract, Array.toList_setIfInBounds, Array.toList_append, List.extract_eq_take_drop, List.drop_zero, Nat.sub_zero]
      rw [List.take_succ_eq_append_getElem (by rw [List.length_set]; exact ho), List.getElem_set_self]
      congr 1
      rw [List.take_set_of_le (Nat.le_refl _)]
    rw [e1, Array.append_assoc]
    congr 1
    simp
/-- A literal of elements of one cell each. -/
theorem run_buildSliceN {P : Program} {t e : TypeId} {α : Type} [Shape α] {bytes : Nat} (hT : ApOk P t e α bytes) (W : World) (hs : Shape.size α = 1) {vs : List Value} (hv : OneCells vs) (hl : Nat.ble vs.length 1000 = true := by rfl) :
    (Instr.buildSlice t vs.length (litFrom 0 vs).toArray).run P W = .ok (.slice (some ⟨W.heap.size, 0, none⟩) vs.length vs.length) (W.alloc (.cells vs.toArray e)) := by
  obtain ⟨i, z, hi, hz, h1, h2, h3⟩ := hT.info
  rw [hs] at h1 h3
  have hl := Nat.le_of_ble_eq_true hl
  have hbig : ¬ (vs.length * i.size > 2 ^ 24) := by rw [h1]; omega
  by_cases hn : vs.length = 0
  · have : vs = [] := List.eq_nil_of_length_eq_zero hn
    subst this
    exact run_buildSlice0 hT W
  have hn0 : ¬ (vs.length * i.size = 0) := by rw [h1]; omega
  have hzs : ((Array.range (vs.length * i.size)).map (fun k => z.cells[k % z.cells.size]!)).size = vs.length := by simp [h1]
  have hf : Instr.fill (fun j => some (j * i.size, i.size)) ((Array.range (vs.length * i.size)).map (fun k => z.cells[k % z.cells.size]!)) (litFrom 0 vs) = some vs.toArray := by
    rw [h1]
    rw [h1] at hzs
    rw [fill_lit vs 0 _ (by rw [hzs]; simp) hv]
    simp
  simp only [Instr.buildSlice, Sem.run_bind, run_underlying hT.desc, Result.andThen_ok, sizeOf, typeInfo, run_program, hi, Sem.run_pure, hbig, if_false, hn0, zeroValue, hz, hf, newRow, run_newObj]
  rfl
/-- A literal, as a row that may be appended to. -/
theorem St.row_lit {α : Type} [Shape α] {w0 W : World} {rs : List Res} {b m : Nat} {cells : List Value} {e : TypeId} {ys : List α} (h : St w0 W (Res.bx b cells e :: rs)) (hl : ys.length = m) (hm : m ≤ maxLen) (hn : Elems W cells ys []) :
    St w0 W (Res.row e (.slice (some ⟨b, 0, none⟩) m m) ys [] :: rs) := by
  subst hl
  have hb : W.heap[b]? = some (.cells cells.toArray e (0, 0)) := h.get 0 rfl
  have hlen := hn.len
  refine h.turn rfl rfl rfl (Nat.le_refl _) (fun _ _ _ => rfl) ⟨⟨cells, ⟨by rw [hlen], .inr ⟨b, ys.length, cells.toArray, rfl, Nat.zero_le _, hb, Nat.le_refl _, hm, by simp [hlen], by rw [← hlen]; simp⟩⟩, hn⟩, by simp⟩ (by simp [Res.row, Value.ownBlock]) (fun c hc => .inl (by simpa [Res.row, Res.bx, Value.ownBlock] using hc))

theorem Elems.i0 {W : World} : Elems W [] ([] : List Int) [] := ⟨rfl, rfl⟩
theorem Elems.ic {W : World} {y : Int} {cs : List Value} {ys : List Int} (h : I64 y) (hs : Elems W cs ys []) : Elems W (I y :: cs) (y :: ys) [] := ⟨[I y], cs, [], [], rfl, ⟨rfl, rfl, h⟩, hs, rfl⟩
/-! ### Flat structs compared -/
def SEq (P : Program) (t : TypeId) (cs ds : List Value) (b : Bool) : Prop := ∀ W, (Op.equalIn 10000 t (.agg cs.toArray) (.agg ds.toArray)).run P W = .ok b W
section
variable {P : Program} {n : Nat} {f : Nat → Value} {W : World} {Q : Exit → Act → World → Prop} {K : Value → World → Prop} {d : Option Tmp} {ty : TypeId} {pos : String} {af : Array Go.Edge} {g : Option (Nat × Bool)} {x y : Operand} {t t' : TypeId}
theorem stp_aeql {cs ds : List Value} {b : Bool} (hs : SEq P t cs ds b) (hg : P.eqGuardType P.depth t = false) (hx : ev n f x = .agg cs.toArray) (hy : ev n f y = .agg ds.toArray) (k : K (.bool b) W) : Stp P n ⟨d, .binOp .eql t x y t', ty, pos, af, g⟩ f W Q K :=
  Stp.run (v := .bool b) (by simp only [execOp, hx, hy, Sem.run_bind, run_eqGuard_agg (hm := hg), Result.andThen_ok, run_eql_struct, hs W]; rfl) k
theorem stp_aneq {cs ds : List Value} {b : Bool} (hs : SEq P t cs ds b) (hg : P.eqGuardType P.depth t = false) (hx : ev n f x = .agg cs.toArray) (hy : ev n f y = .agg ds.toArray) (k : K (.bool (!b)) W) : Stp P n ⟨d, .binOp .neq t x y t', ty, pos, af, g⟩ f W Q K :=
  Stp.run (v := .bool (!b)) (by simp only [execOp, hx, hy, Sem.run_bind, run_eqGuard_agg (hm := hg), Result.andThen_ok, run_neq_struct, hs W]; rfl) k
end
theorem eg_Edge : Tryd.prog.eqGuardType Tryd.prog.depth 75 = false := by kernel_rfl
set_option maxHeartbeats 1000000 in
theorem se_Edge (x y : Edge) : SEq Tryd.prog 75 x.cells y.cells (eqB x y) := by
  intro W
  rw [run_equalIn_agg (d := 9999) (ht := Tryd.underlying75) (hp := by kernel_rfl)]
  cases x; cases y
  simp [Op.eqFields, Program.fieldsOf, Tryd.underlying75, go_sem, part, Edge.cells, eqB]
  (repeat' split) <;> simp_all
theorem eg_Task : Tryd.prog.eqGuardType Tryd.prog.depth 66 = false := by kernel_rfl
set_option maxHeartbeats 1000000 in
theorem se_Task (x y : Task) : SEq Tryd.prog 66 x.cells y.cells (eqB x y) := by
  intro W
  rw [run_equalIn_agg (d := 9999) (ht := Tryd.underlying66) (hp := by kernel_rfl)]
  cases x; cases y
  simp [Op.eqFields, Program.fieldsOf, Tryd.underlying66, go_sem, part, Task.cells, eqB]
  (repeat' split) <;> simp_all
theorem eg_Reply : Tryd.prog.eqGuardType Tryd.prog.depth 25 = false := by kernel_rfl
set_option maxHeartbeats 1000000 in
theorem se_Reply (x y : Reply) : SEq Tryd.prog 25 x.cells y.cells (eqB x y) := by
  intro W
  rw [run_equalIn_agg (d := 9999) (ht := Tryd.underlying25) (hp := by kernel_rfl)]
  cases x; cases y
  simp [Op.eqFields, Program.fieldsOf, Tryd.underlying25, go_sem, part, Reply.cells, eqB]
  (repeat' split) <;> simp_all
end Go.Proofs.YtchnllpegfbleaaDoor

/-
  A store into an element of an owned slice; a made slice, all zeros.
-/
namespace Go.Proofs.YtchnllpegfbleaaDoor
set_option linter.unusedSimpArgs false
set_option linter.unusedVariables false
set_option maxRecDepth 100000
open Go.RowKit
theorem PA.same {v : Value} {k i b o b' o' : Nat} (h : PA v k i b o) (h' : PA v k i b' o') : b = b' ∧ o = o' := by
  obtain ⟨off, len, cap, rfl, _, rfl⟩ := h
  obtain ⟨off', len', cap', e, _, rfl⟩ := h'
  injection e with e1 e2 e3
  injection e1 with e1
  injection e1 with e1 e4
  subst e1 e4
  exact ⟨rfl, rfl⟩
section
variable {P : Program} {n : Nat} {f : Nat → Value} {W w0 : World} {rs : List Res} {Q : Exit → Act → World → Prop} {K : Value → World → Prop}
  {d : Option Tmp} {ty : TypeId} {pos : String} {af : Array Go.Edge} {g : Option (Nat × Bool)} {α : Type} [Shape α]
/-- One cell, that is the whole element. -/
theorem stp_poke1 {t : TypeId} {x y : Operand} {b o i : Nat} {v u : Value} {xs : List α} {z : α} {fp : List Nat} (hs : Shape.size α = 1) (hi : (P.info? t).map (·.size) = some 1) (hx : ev n f x = .pointer (some ⟨b, o, none⟩)) (hPA : PA v (Shape.size α) i b o) (hl : i < xs.length) (hy : ev n f y = u) (h1 : u.cells = #[u]) (h2 : u.oneCell' = true)
    (hst : St w0 W (Res.own v xs fp :: rs)) (hc : ∀ W, Shape.C W [u] z []) (k : ∀ fp' W', St w0 W' (Res.own v (xs.set i z) fp' :: rs) → K undef W') : Stp P n ⟨d, .store t x y, ty, pos, af, g⟩ f W Q K := by
  obtain ⟨b', e, pre, cs, post, fi, fr, hPA', hC, st⟩ := St.lend (α := α) (by omega) hst hl
  obtain ⟨rfl, rfl⟩ := hPA.same hPA'
  have hcl := Shape.len hC
  rw [hs] at hcl
  obtain ⟨c, rfl⟩ : ∃ c, cs = [c] := by
    cases cs with
    | nil => simp at hcl
    | cons c cs => cases cs with
      | nil => exact ⟨c, rfl⟩
      | cons _ _ => simp at hcl
  refine stp_store_bp (i := 0) (C' := [u]) hi hx hy h1 h2 st rfl (Nat.le_refl _) rfl ?_
  intro W' st'
  have st2 := st'.d1
  have st3 := St.cs0 (cs := [u]) (x := z) st2 (hc W')
  have st4 := st3.f1
  obtain ⟨fp', st5⟩ := St.give (α := α) st4
  exact k fp' W' st5
theorem made_list (v : Value) (m : Nat) : (madeCells #[v] m).toList = List.replicate m v := by
  apply List.ext_getElem
  · rw [Array.length_toList, size_madeCells, List.length_replicate]
  · intro j h1 h2
    rw [List.getElem_replicate, Array.getElem_toList]
    simp [madeCells, Nat.mod_one]
theorem Elems.rep {W : World} {v : Value} {z : α} (h : Shape.C W [v] z []) : ∀ m, Elems W (List.replicate m v) (List.replicate m z) []
  | 0 => ⟨rfl, rfl⟩
  | m + 1 => ⟨[v], List.replicate m v, [], [], rfl, h, Elems.rep h m, rfl⟩
/-- make, of elements of one cell: all are zero. -/
theorem stp_makeZ {t e : TypeId} {bytes : Nat} {x y : Operand} {N : Nat} {v : Value} {z : α} (hT : ApOk P t e α bytes) (hzero : ((P.info? e).bind (·.zero)).map (·.cells) = some #[v]) (hx : ev n f x = I (N : Int)) (hy : ev n f y = I (N : Int)) (hN : N ≤ 1048576 * 64) (hb : N * bytes ≤ 140737488355328) (hst : St w0 W rs) (hz : ∀ W, Shape.C W [v] z [])
    (k : ∀ b fp W', Below W.heap.size W W' → St w0 W' (Res.own (.slice (some ⟨b, 0, none⟩) N N) (List.replicate N z) fp :: rs) → K (.slice (some ⟨b, 0, none⟩) N N) W') : Stp P n ⟨d, .makeSlice t x y, ty, pos, af, g⟩ f W Q K := by
  obtain ⟨i, zz, hi, hzz, h1, h2, h3⟩ := hT.info
  have hzc : zz.cells = #[v] := by simpa [hi, hzz] using hzero
  have hs1 : Shape.size α = 1 := by rw [← h3, hzc]; rfl
  have hb' : (N : Int) * (bytes : Int) ≤ 140737488355328 := by have := Int.ofNat_le.2 hb; rw [Int.natCast_mul] at this; exact this
  have hmk := run_make (P := P) W t e i zz hT.desc hi hzz .i64 .i64 N N (by omega) (by omega) (by rw [h2, Int.mul_comm]; omega) (by omega)
  rw [Int.toNat_natCast, h1, hs1, Nat.mul_one, hzc] at hmk
  refine Stp.run (v := .slice (some ⟨W.heap.size, 0, none⟩) N N) (W' := W.alloc (.cells (madeCells #[v] N) e)) (by simp only [execOp, hx, hy, Sem.run_bind, hmk, Result.andThen_ok]; rfl) ?_
  have h := hst.alloc (madeCells #[v] N).toList e
  rw [Array.toArray_toList] at h
  have hbl : Below W.heap.size W (W.alloc (.cells (madeCells #[v] N) e)) := below_alloc (Below.refl _ _)
  have h' : St w0 (W.alloc (.cells (madeCells #[v] N) e)) (Res.bx W.heap.size (List.replicate N v) e :: rs) := by
    rw [made_list] at h; exact h
  have hr := St.row_lit (α := α) (m := N) (ys := List.replicate N z) h' (by simp) (by unfold maxLen; omega) (Elems.rep (hz _) N)
  obtain ⟨fp, hr2⟩ := hr.shut
  exact k _ fp _ hbl hr2
end
end Go.Proofs.YtchnllpegfbleaaDoor

/-
  Functions without parameters; slices that are nil, owned out of nothing.
-/
namespace Go.Proofs.YtchnllpegfbleaaDoor
set_option linter.unusedSimpArgs false
set_option linter.unusedVariables false
open Go.RowKit
section
variable {P : Program} {W : World}
theorem enter0 {F : FuncId} {fn : Func} {c : Code} {m : Nat} {R : Ending → World → Prop} (hf : P.funcs[F]? = some fn) (hb : fn.body = some c) (hm : fn.ntmps = m) (hl : 0 ≤ m) (h : c.wp P (bodyPost P fn R) (act m u0) W) : Calls P F #[] W R := by
  subst hm
  refine calls_of_wp hf hb ?_
  rw [act_enter fn.ntmps [] u0 (Nat.zero_le _) (fun t _ => rfl)]
  exact h
end
theorem row_Sl0 {α : Type} [Shape α] {W : World} {e : TypeId} {v : Value} {fe : List Nat} (h : (Res.row (α := α) e v [] fe).holds W) : Sl W v ([] : List α) [] := by simpa using row_Sl h
theorem St.own_nil {α : Type} [Shape α] {w0 W : World} {rs : List Res} (h : St w0 W rs) : St w0 W (Res.own (.slice none 0 0) ([] : List α) [] :: rs) :=
  h.trade (rs1 := []) (rs2 := [Res.own (.slice none 0 0) ([] : List α) []]) (show ([] : List Nat).Nodup from List.nodup_nil) (fun b hb => absurd (show b ∈ ([] : List Nat) from hb) (by simp)) (by intro r hr; simp at hr; subst hr; exact ⟨nil_Sl.v, by simp⟩)
end Go.Proofs.YtchnllpegfbleaaDoor

/-
  Strings: lengths, comparisons, sums.
-/
namespace Go.Proofs.YtchnllpegfbleaaDoor
set_option linter.unusedSimpArgs false
set_option linter.unusedVariables false
open Go.RowKit
theorem toList_beq (a b : ByteArray) : (a.toList == b.toList) = decide (a = b) := by
  by_cases h : a = b
  · subst h; simp
  · have : ¬ a.toList = b.toList := fun e => h (by
      rw [ByteArray.toList_eq, ByteArray.toList_eq] at e
      obtain ⟨⟨x⟩⟩ := a
      obtain ⟨⟨y⟩⟩ := b
      simp at e
      subst e; rfl)
    simp [h, this]
section
variable {P : Program} {n : Nat} {f : Nat → Value} {W : World} {Q : Exit → Act → World → Prop} {K : Value → World → Prop} {d : Option Tmp} {ty : TypeId} {pos : String} {af : Array Go.Edge} {g : Option (Nat × Bool)} {x y : Operand} {t t' : TypeId} {a b : ByteArray}
theorem stp_slen (hu : P.underlying t = some .string) (hx : ev n f x = .string a) (k : K (I (a.size : Int)) W) : Stp P n ⟨d, .call { callee := .builtin .len, args := #[x], argTypes := #[t] }, ty, pos, af, g⟩ f W Q K :=
  Stp.run (v := I (a.size : Int)) (by simp [execOp, hx, resolve, invoke, builtin, Sem.run_bind, run_len_string (h := hu), goInt]) k
theorem stp_seql (hx : ev n f x = .string a) (hy : ev n f y = .string b) (k : K (.bool (decide (a = b))) W) : Stp P n ⟨d, .binOp .eql t x y t', ty, pos, af, g⟩ f W Q K :=
  Stp.run (v := .bool (decide (a = b))) (by simp [execOp, hx, hy, go_sem, toList_beq]) k
theorem stp_sneq (hx : ev n f x = .string a) (hy : ev n f y = .string b) (k : K (.bool (!decide (a = b))) W) : Stp P n ⟨d, .binOp .neq t x y t', ty, pos, af, g⟩ f W Q K :=
  Stp.run (v := .bool (!decide (a = b))) (by simp [execOp, hx, hy, go_sem, toList_beq]) k
theorem stp_sadd (hx : ev n f x = .string a) (hy : ev n f y = .string b) (h : a.size + b.size ≤ 9223372036854775807) (k : K (.string (a ++ b)) W) : Stp P n ⟨d, .binOp .add t x y t', ty, pos, af, g⟩ f W Q K :=
  Stp.run (v := .string (a ++ b)) (by
    have h' : ¬ ((a.size : Int) + (b.size : Int) > IntKind.i64.max) := by simp [IntKind.max, IntKind.bits, IntKind.signed]; omega
    simp [execOp, hx, hy, go_sem, Op.stringOp]
    omega) k
end
end Go.Proofs.YtchnllpegfbleaaDoor

/-
  Bytes: numbers turned to bytes, rows of bytes turned to strings.
-/
namespace Go.Proofs.YtchnllpegfbleaaDoor
set_option linter.unusedSimpArgs false
set_option linter.unusedVariables false
open Go.RowKit Go.Lib
instance : Shape UInt8 := Shape.flat 1 (fun b => [.int .u8 (b.toNat : Int)]) (fun _ => True) (fun _ => rfl) (fun _ v hv => by simp at hv; subst hv; rfl)
instance : Agg UInt8 := ⟨false⟩
section
variable {P : Program} {n : Nat} {f : Nat → Value} {W w : World} {Q : Exit → Act → World → Prop} {K : Value → World → Prop} {d : Option Tmp} {ty : TypeId} {pos : String} {af : Array Go.Edge} {g : Option (Nat × Bool)} {x y : Operand} {t e t' : TypeId}
theorem intKind_u8 (hd : P.underlying t = some (.int .u8)) : P.intKind t = .u8 := by simp [Program.intKind, hd]
theorem stp_byte {a : Int} (hs : (P.underlying t).isSome = true) (hd : P.underlying t' = some (.int .u8)) (hx : ev n f x = I a) (h : 0 ≤ a ∧ a < 256) (k : K (.int .u8 a) W) : Stp P n ⟨d, .convert t t' x, ty, pos, af, g⟩ f W Q K :=
  Stp.run (v := .int .u8 a) (by
    have hw : IntKind.u8.wrap a = a := by simp [IntKind.wrap, IntKind.bits, IntKind.signed]; omega
    have hd' : P.underlying t' = some (.int (P.intKind t')) := by rw [intKind_u8 hd]; exact hd
    have := run_convert_int (P := P) W t t' .i64 a hs hd'
    rw [intKind_u8 hd, hw] at this
    simp only [execOp, hx, Sem.run_bind, this, Result.andThen_ok]; rfl) k
theorem conv_none (hs : P.underlying t = some (.slice e)) (he : P.underlying e = some (.int .u8)) (hd : P.underlying t' = some .string) (p : Option Addr) (c : Nat) (W : World) : (convert t t' (.slice p 0 c)).run P W = .ok (.string ⟨#[]⟩) W := by
  rw [run_convert_bytes_string W t t' e _ 0 c hs he hd]
  cases p
  · simp [Conv.bytesToString, loadCells]; rfl
  · simp [Conv.bytesToString, loadCells]; rfl
theorem bytes_of {v : Value} {bs : List UInt8} {fp : List Nat} (h : Sl W v bs fp) (hne : bs ≠ []) : ∃ b o cap, v = .slice (some ⟨b, o, none⟩) bs.length cap ∧ Bytes W b o ⟨bs.toArray⟩ := by
  obtain ⟨ao, cap, rfl, h1, h2, h3⟩ := h.openk 1 rfl
  obtain ⟨b, o, rfl, hb, hm, he⟩ := h3 (List.length_pos_iff.2 hne)
  refine ⟨b, o, cap, rfl, ?_⟩
  intro i hi
  have hi' : i < bs.length := by simpa [ByteArray.size] using hi
  obtain ⟨cs, f1, hr, ⟨hc, _, _⟩, _⟩ := he i hi'
  subst hc
  have := hr 0 _ rfl
  rw [Nat.mul_one, Nat.add_zero] at this
  rw [this]
  rfl
theorem stp_strOf {bs : List UInt8} {v : Value} {fp : List Nat} (hs : P.underlying t = some (.slice e)) (he : P.underlying e = some (.int .u8)) (hd : P.underlying t' = some .string) (hx : ev n f x = v) (h : Sl w v bs fp) (hb : Below w.heap.size w W) (k : K (.string ⟨bs.toArray⟩) W) : Stp P n ⟨d, .convert t t' x, ty, pos, af, g⟩ f W Q K := by
  have h' := h.below hb
  by_cases hne : bs = []
  · subst hne
    obtain ⟨ao, cap, rfl, _⟩ := h'
    refine Stp.run (v := .string ⟨#[]⟩) ?_ k
    have := conv_none (P := P) hs he hd ao cap W
    simp only [execOp, hx, Sem.run_bind, List.length_nil, this, Result.andThen_ok]
    rfl
  · obtain ⟨b, o, cap, rfl, hB⟩ := bytes_of h' hne
    refine Stp.run (v := .string ⟨bs.toArray⟩) ?_ k
    have hsz : (⟨bs.toArray⟩ : ByteArray).size = bs.length := by simp [ByteArray.size]
    have := run_convert_whole (P := P) W t e t' hs he hd b o ⟨bs.toArray⟩ hB cap
    rw [hsz] at this
    simp only [execOp, hx, Sem.run_bind, this, Result.andThen_ok]
    rfl
theorem i64_of_le {a b : Int} (h1 : 0 ≤ a) (hb : a ≤ b) (h2 : b ≤ 9223372036854775807) : IntKind.i64.wrap a = a := wrap_I64 ⟨by omega, by omega⟩
theorem stp_rem {ty2 : TypeId} {a b : Int} (hx : ev n f x = I a) (hy : ev n f y = I b) (h13 : 0 ≤ a ∧ a ≤ 9223372036854775807) (h2 : 0 < b) (k : K (I (a % b)) W) : Stp P n ⟨d, .binOp .rem t x y ty2, ty, pos, af, g⟩ f W Q K :=
  Stp.run (v := I (a % b)) (by
    obtain ⟨h1, h3⟩ := h13
    have e1 : a.tmod b = a % b := Int.tmod_eq_emod_of_nonneg h1
    have e2 : 0 ≤ a % b := Int.emod_nonneg a (by omega)
    have e3 : a % b ≤ a := by
      rcases Int.lt_or_le a b with h | h
      · rw [Int.emod_eq_of_lt h1 h]; omega
      · have := Int.emod_lt_of_pos a h2; omega
    have e4 : IntKind.i64.wrap (a % b) = a % b := i64_of_le e2 e3 h3
    have hb : ¬ b = 0 := by omega
    simp [execOp, hx, hy, go_sem, Op.intArith, hb, e1, e4]) k
theorem stp_quo {ty2 : TypeId} {a b : Int} (hx : ev n f x = I a) (hy : ev n f y = I b) (h13 : 0 ≤ a ∧ a ≤ 9223372036854775807) (h2 : 0 < b) (k : K (I (a / b)) W) : Stp P n ⟨d, .binOp .quo t x y ty2, ty, pos, af, g⟩ f W Q K :=
  Stp.run (v := I (a / b)) (by
    obtain ⟨h1, h3⟩ := h13
    have e1 : a.tdiv b = a / b := Int.tdiv_eq_ediv_of_nonneg h1
    have e2 : 0 ≤ a / b := Int.ediv_nonneg h1 (by omega)
    have e3 : a / b ≤ a := Int.ediv_le_self _ h1
    have e4 : IntKind.i64.wrap (a / b) = a / b := i64_of_le e2 e3 h3
    have hb : ¬ b = 0 := by omega
    simp [execOp, hx, hy, go_sem, Op.intArith, hb, e1, e4]) k
/-- A literal of one byte, as a string. -/
theorem stp_str1 {b : Nat} {c : Int} {te : TypeId} (hs : P.underlying t = some (.slice e)) (he : P.underlying e = some (.int .u8)) (hd : P.underlying t' = some .string) (hx : ev n f x = .slice (some ⟨b, 0, none⟩) 1 1) (hB : (Res.bx b [.int .u8 c] te).holds W) (hc : 0 ≤ c ∧ c < 256) (k : K (.string ⟨#[UInt8.ofNat c.toNat]⟩) W) : Stp P n ⟨d, .convert t t' x, ty, pos, af, g⟩ f W Q K := by
  have hcb : ((UInt8.ofNat c.toNat).toNat : Int) = c := by
    simp [UInt8.toNat_ofNat']
    omega
  have hbytes : Bytes W b 0 ⟨#[UInt8.ofNat c.toNat]⟩ := by
    intro i hi
    have hi0 : i = 0 := by simp [ByteArray.size] at hi; exact hi
    subst hi0
    have := range_of_heap hB 0 (.int .u8 c) rfl
    rw [this]
    show some (Value.int .u8 c) = some (.int .u8 ((UInt8.ofNat c.toNat).toNat : Int))
    rw [hcb]
  have := run_convert_whole (P := P) W t e t' hs he hd b 0 ⟨#[UInt8.ofNat c.toNat]⟩ hbytes 1
  have hsz : (⟨#[UInt8.ofNat c.toNat]⟩ : ByteArray).size = 1 := rfl
  rw [hsz] at this
  refine Stp.run (v := .string ⟨#[UInt8.ofNat c.toNat]⟩) ?_ k
  simp only [execOp, hx, Sem.run_bind, this, Result.andThen_ok]
  rfl
end
theorem ap_uint8S : ApOk Tryd.prog 64 5 UInt8 1 := apOk Tryd.underlying64 (by kernel_rfl) (by decide)
end Go.Proofs.YtchnllpegfbleaaDoor

/-
  Numbers in figures: the reference's way, digit by digit. Truncating division.
-/
namespace Go.Proofs.YtchnllpegfbleaaDoor
set_option linter.unusedSimpArgs false
set_option linter.unusedVariables false
open Go.RowKit Go.Lib
section
variable {P : Program} {n : Nat} {f : Nat → Value} {W w : World} {Q : Exit → Act → World → Prop} {K : Value → World → Prop} {d : Option Tmp} {ty : TypeId} {pos : String} {af : Array Go.Edge} {g : Option (Nat × Bool)} {x y : Operand} {t e t' : TypeId}
theorem tmod_rng {a b : Int} (h2 : 0 < b) : -b < a.tmod b ∧ a.tmod b < b := by
  have h := Int.natAbs_tmod a b
  have h3 : (a.tmod b).natAbs < b.natAbs := by rw [h]; exact Nat.mod_lt _ (by omega)
  omega
theorem tdiv_rng {a b : Int} (h2 : 0 < b) : (a.tdiv b).natAbs ≤ a.natAbs := by
  rw [Int.natAbs_tdiv]; exact Nat.div_le_self _ _
theorem stp_remT {ty2 : TypeId} {a b : Int} (hx : ev n f x = I a) (hy : ev n f y = I b) (ha : -9223372036854775808 ≤ a ∧ a ≤ 9223372036854775807) (h2 : 0 < b ∧ b ≤ 9223372036854775807) (k : K (I (Int.tmod a b)) W) : Stp P n ⟨d, .binOp .rem t x y ty2, ty, pos, af, g⟩ f W Q K :=
  Stp.run (v := I (Int.tmod a b)) (by
    have e2 := tmod_rng (a := a) h2.1
    have e4 : IntKind.i64.wrap (a.tmod b) = a.tmod b := wrap_I64 ⟨by omega, by omega⟩
    have hb : ¬ b = 0 := by omega
    simp [execOp, hx, hy, go_sem, Op.intArith, hb, e4]) k
theorem stp_quoT {ty2 : TypeId} {a b : Int} (hx : ev n f x = I a) (hy : ev n f y = I b) (ha : -9223372036854775808 ≤ a ∧ a ≤ 9223372036854775807) (h2 : 1 < b ∧ b ≤ 9223372036854775807) (k : K (I (Int.tdiv a b)) W) : Stp P n ⟨d, .binOp .quo t x y ty2, ty, pos, af, g⟩ f W Q K :=
  Stp.run (v := I (Int.tdiv a b)) (by
    have e2 : (a.tdiv b).natAbs ≤ a.natAbs / 2 := by
      rw [Int.natAbs_tdiv]
      exact Nat.div_le_div_left (by omega) (by omega)
    have e4 : IntKind.i64.wrap (a.tdiv b) = a.tdiv b := wrap_I64 ⟨by omega, by omega⟩
    have hb : ¬ b = 0 := by omega
    simp [execOp, hx, hy, go_sem, Op.intArith, hb, e4]) k
theorem stp_neg {a : Int} (hx : ev n f x = I a) (h : I64 (-a)) (k : K (I (-a)) W) : Stp P n ⟨d, .unOp .neg t x, ty, pos, af, g⟩ f W Q K :=
  Stp.run (v := I (-a)) (by simp [execOp, hx, go_sem, wrap_I64 h]) k
end
/-- What start-up laid is there still. -/
theorem TabIs.below {P : Program} {w W : World} {name : String} {k : IntKind} {zs : List Int} (h : Lib.TabIs P w name k zs) (hb : Below w.heap.size w W) : Lib.TabIs P W name k zs := by
  unfold Lib.TabIs at *
  unfold World.var? at *
  cases hg : P.globalNamed name with
  | none => rw [hg] at h; cases h
  | some i =>
    rw [hg] at h
    simp only [Option.bind_some] at h ⊢
    cases hh : w.heap[i]? with
    | none => rw [hh] at h; cases h
    | some o =>
      have hi : i < w.heap.size := (Array.getElem?_eq_some_iff.1 hh).1
      rw [hb.block i hi]
      exact h
theorem bsz (a : Array UInt8) : (⟨a⟩ : ByteArray).size = a.size := rfl
theorem Elems.s0 {W : World} : Elems W [] ([] : List ByteArray) [] := ⟨rfl, rfl⟩
theorem Elems.sc {W : World} {y : ByteArray} {cs : List Value} {ys : List ByteArray} (h : y.size ≤ maxLen) (hs : Elems W cs ys []) : Elems W (.string y :: cs) (y :: ys) [] := ⟨[.string y], cs, [], [], rfl, ⟨rfl, rfl, h⟩, hs, rfl⟩
/-- A literal that a region has laid, as a slice. -/
theorem blk_Sl {α : Type} [Shape α] {W : World} {b : Nat} {cells : List Value} {e : TypeId} {ys : List α} (hne : ys ≠ []) (he : Elems W cells ys []) (hh : W.heap[b]? = some (.cells cells.toArray e (0, 0))) (hm : ys.length ≤ 1000 := by simp) : Sl W (.slice (some ⟨b, 0, none⟩) ys.length ys.length) ys [b] :=
  ⟨some ⟨b, 0, none⟩, ys.length, rfl, Nat.le_refl _, by omega, .inr ⟨b, 0, [], hne, rfl, rfl, (Array.getElem?_eq_some_iff.1 hh).1, he.at 0 (range_of_heap hh)⟩⟩
def preD (z : Int) : List UInt8 := if z = 0 then [] else decDigits z.natAbs
theorem preD_step {z : Int} (h : ¬ z = 0) : preD z = preD (z.tdiv 10) ++ [UInt8.ofNat (48 + (z.tmod 10).natAbs)] := by
  have h1 : (z.tdiv 10).natAbs = z.natAbs / 10 := Int.natAbs_tdiv z 10
  have h2 : (z.tmod 10).natAbs = z.natAbs % 10 := Int.natAbs_tmod z 10
  unfold preD
  rw [if_neg h, h2, decDigits]
  by_cases h3 : z.natAbs < 10
  · rw [dif_pos h3, if_pos (by omega), Nat.mod_eq_of_lt h3]; rfl
  · rw [dif_neg h3, if_neg (by omega), h1]
theorem decDigits_len (u : Nat) : ∀ k : Nat, u < 10 ^ (k + 1) → (decDigits u).length ≤ k + 1
  | 0, h => by
    rw [decDigits, dif_pos (by omega)]; simp
  | k + 1, h => by
    rw [decDigits]
    split
    · simp
    · have := decDigits_len (u / 10) k (by rw [Nat.div_lt_iff_lt_mul (by omega)]; rw [Nat.pow_succ] at h; exact h)
      rw [List.length_append, List.length_singleton]; omega
theorem itoa_len {z : Int} (h : -9223372036854775808 ≤ z ∧ z ≤ 9223372036854775807) : (itoa z).length ≤ 21 := by
  unfold itoa
  split
  · have := decDigits_len z.natAbs 19 (by have : z.natAbs < 10 ^ 20 := by omega
                                          exact this)
    simp; omega
  · have := decDigits_len z.toNat 19 (by have : z.toNat < 10 ^ 20 := by omega
                                         exact this)
    omega
theorem bcons (x : UInt8) (l : List UInt8) : (⟨#[x]⟩ : ByteArray) ++ ⟨l.toArray⟩ = ⟨(x :: l).toArray⟩ := by
  apply ByteArray.ext
  simp
/-- A number in figures. -/
def itoaB (z : Int) : ByteArray := ⟨(itoa z).toArray⟩
theorem itoaB_zero : itoaB 0 = ⟨#[48]⟩ := by
  have h : itoa 0 = [48] := by
    unfold itoa
    rw [if_neg (by omega), show (0 : Int).toNat = 0 from rfl, decDigits_one (by omega)]; rfl
  rw [itoaB, h]
theorem sl_len {z : Int} {sl : List UInt8} {u : Nat} (h : preD z ++ sl = decDigits u) (hu : u ≤ 9223372036854775808) : sl.length ≤ 20 := by
  have h1 := congrArg List.length h
  rw [List.length_append] at h1
  have h3 : u < 10 ^ 20 := by omega
  have h2 := decDigits_len u 19 h3
  omega
theorem itoaB_size {z : Int} (h : -9223372036854775808 ≤ z ∧ z ≤ 9223372036854775807) : (itoaB z).size ≤ 21 := by
  have := itoa_len h
  simpa [itoaB, ByteArray.size] using this
end Go.Proofs.YtchnllpegfbleaaDoor

/-
  The lesser and the greater of two numbers.
-/
namespace Go.Proofs.YtchnllpegfbleaaDoor
set_option linter.unusedSimpArgs false
set_option linter.unusedVariables false
open Go.RowKit
section
variable {P : Program} {n : Nat} {f : Nat → Value} {W : World} {Q : Exit → Act → World → Prop} {K : Value → World → Prop} {d : Option Tmp} {ty : TypeId} {pos : String} {af : Array Go.Edge} {g : Option (Nat × Bool)} {x y : Operand} {ats : Array TypeId}
theorem stp_min {a b : Int} (hx : ev n f x = I a) (hy : ev n f y = I b) (k : K (I (min a b)) W) : Stp P n ⟨d, .call { callee := .builtin .min, args := #[x, y], argTypes := ats }, ty, pos, af, g⟩ f W Q K :=
  Stp.run (v := I (min a b)) (by
    simp [execOp, hx, hy, resolve, invoke, builtin, go_sem]
    try omega) k
theorem stp_max {a b : Int} (hx : ev n f x = I a) (hy : ev n f y = I b) (k : K (I (max a b)) W) : Stp P n ⟨d, .call { callee := .builtin .max, args := #[x, y], argTypes := ats }, ty, pos, af, g⟩ f W Q K :=
  Stp.run (v := I (max a b)) (by
    simp [execOp, hx, hy, resolve, invoke, builtin, go_sem]
    try omega) k
end
end Go.Proofs.YtchnllpegfbleaaDoor

/-
  A region that draws its order, some operations of which, one behind the other, make memory or write to what is the call's own; the others only look.
-/
namespace Go.Proofs.YtchnllpegfbleaaDoor
set_option linter.unusedSimpArgs false
set_option linter.unusedVariables false
open Go.RowKit

/-- What is said of the value of an operation, as the slots stand; and the Bool that it is, if it is one. -/
structure Pq where
  p : (Nat → Value) → Value → Prop
  b : Option Bool
  look : List Nat
  fr : ∀ {f f' : Nat → Value} {v}, (∀ t ∈ look, f t = f' t) → p f v → p f' v
  yld : ∀ {f v}, p f v → yl v = b
def Pq.is (u : Value) (h : yl u = none := by rfl) : Pq := ⟨fun _ v => v = u, none, [], fun _ h => h, fun {_ _} e => by rw [e]; exact h⟩
def Pq.bool (x : Bool) : Pq := ⟨fun _ v => v = .bool x, some x, [], fun _ h => h, fun {_ _} e => by rw [e]; rfl⟩
/-- Not carried out. -/
def Pq.off : Pq := Pq.is undef
/-- No Bool. -/
def Pq.none : Pq := ⟨fun _ v => yl v = .none, .none, [], fun _ h => h, fun {_ _} e => e⟩
/-- Two values, the second of which is an int or a bool that is told. -/
def Pq.ext (t k : Nat) (u : Value) (h : yl u = .none) : Pq := ⟨fun _ v => v = u, .none, [], fun _ h => h, fun {_ _} e => by rw [e]; exact h⟩
/-- What is owned at a point of the chain: u, what its operations have laid down. -/
structure Cp (w0 w1 : World) (rc : List Res) where
  p : List Value → World → Prop
  st : ∀ {u W}, p u W → St w0 W rc
  bl : ∀ {u W}, p u W → Below w1.heap.size w1 W
  up : ∀ {u W W'}, p u W → Below W.heap.size W W' → p u W'
theorem St.dropn {w0 W : World} {rs : List Res} (k : Nat) (h : St w0 W rs) : St w0 W (rs.drop k) := h.sub (List.drop_sublist k rs)
def Cp.of {w0 w1 : World} {rc : List Res} {ι : Type} (us : ι → List Value) (R : ι → List Res) (pr : ∀ g W, St w0 W (R g) → St w0 W rc) : Cp w0 w1 rc :=
  ⟨fun u W => ∃ g, u = us g ∧ St w0 W (R g) ∧ Below w1.heap.size w1 W, fun ⟨g, _, h, _⟩ => pr g _ h, fun ⟨_, _, _, h⟩ => h, fun ⟨g, e, h, h2⟩ hb => ⟨g, e, by simpa using h.call (St.of_below hb), h2.trans (hb.mono h2.size)⟩⟩
/-- The same, where the call's own stays behind. -/
def Cp.fr {w0 w1 : World} {rc : List Res} {ι : Type} (us : ι → List Value) (R : ι → List Res) : Cp w0 w1 rc :=
  Cp.of us (fun g => R g ++ rc) (fun g W h => by have h2 := h.dropn (R g).length; rwa [List.drop_left] at h2)
theorem cap_ (a : Res) (l t : List Res) : a :: l ++ t = a :: (l ++ t) := rfl
theorem nap_ (l : List Res) : [] ++ l = l := rfl
theorem ce {a b : Value} {l l' : List Value} (h : a = b) (t : l = l') : a :: l = b :: l' := by rw [h, t]
def uAt (l : List Oper) (f : Nat → Value) (i : Nat) : Value := match dstOf l i with | some d => f d | none => undef
def onOfq (l : List Oper) (F : List Pq) (o : Oper) : Bool :=
  match o.guard with
  | none => true
  | some (j, w) => (F.getD j Pq.off).b == some w
/-- What is looked at is waited for. -/
def lookOk (l : List Oper) (F : List Pq) : Bool :=
  (List.range l.length).all (fun i => ((F.getD i Pq.off).look).all (fun t => (List.range l.length).any (fun j => dep l i j && (match dstOf l j with | some d => Nat.beq d t | none => false))))
/-- The chain's ways: from state 0, at which none is done, to the last, at which all are; at each state each that may come is told of. -/
def grOk (l : List Oper) (ws : List Nat) (ds : List (List Nat)) (tr : List (List (Nat × Nat))) : Bool :=
  ws.all (fun i => Nat.blt i l.length) && Nat.blt 0 ds.length && (ds.getD 0 []).isEmpty &&
  (List.range ds.length).all (fun s => (ds.getD s []).all (fun j => ws.contains j) && (!ws.all (fun j => (ds.getD s []).contains j) || Nat.beq (s + 1) ds.length) &&
    ws.all (fun i => (ds.getD s []).contains i || ws.any (fun j => dep l i j && !(ds.getD s []).contains j) ||
      (match wix ws i 0 with | some q => (tr.getD q []).any (fun t => Nat.beq t.1 s && Nat.blt t.2 ds.length && ws.all (fun j => (ds.getD t.2 []).contains j == ((ds.getD s []).contains j || Nat.beq j i))) | none => false)))
structure GrOk (l : List Oper) (ws : List Nat) (ds : List (List Nat)) (tr : List (List (Nat × Nat))) : Prop where
  lt : ∀ i, i ∈ ws → i < l.length
  pos : 0 < ds.length
  zero : ds.getD 0 [] = []
  sub : ∀ s, s < ds.length → ∀ j, j ∈ ds.getD s [] → j ∈ ws
  last : ∀ s, s < ds.length → (∀ j, j ∈ ws → j ∈ ds.getD s []) → s + 1 = ds.length
  go : ∀ s i q, s < ds.length → i ∈ ws → wix ws i 0 = some q → i ∉ ds.getD s [] → (∀ j, j ∈ ws → dep l i j = true → j ∈ ds.getD s []) → ∃ s2, (s, s2) ∈ tr.getD q [] ∧ s2 < ds.length ∧ ∀ j, j ∈ ws → (j ∈ ds.getD s2 [] ↔ j ∈ ds.getD s [] ∨ j = i)
theorem GrOk.of {l : List Oper} {ws : List Nat} {ds : List (List Nat)} {tr : List (List (Nat × Nat))} (h : grOk l ws ds tr = true) : GrOk l ws ds tr := by
  unfold grOk at h
  simp only [Bool.and_eq_true, List.all_eq_true, List.mem_range] at h
  obtain ⟨⟨⟨h1, h2⟩, h3⟩, h4⟩ := h
  refine ⟨fun i hi => blt_lt (h1 i hi), blt_lt h2, List.isEmpty_iff.1 h3, fun s hs j hj => by have := (h4 s hs).1.1 j hj; simpa using this, ?_, ?_⟩
  · intro s hs hall
    have h5 := (h4 s hs).1.2
    have h6 : ws.all (fun j => (ds.getD s []).contains j) = true := by rw [List.all_eq_true]; intro j hj; simpa using hall j hj
    rw [h6] at h5
    exact Nat.eq_of_beq_eq_true (by simpa using h5)
  · intro s i q hs hi hq hni hd
    have h5 := (h4 s hs).2 i hi
    rw [hq] at h5
    simp only [Bool.or_eq_true] at h5
    rcases h5 with (h5 | h5) | h5
    · exact absurd (by simpa using h5) hni
    · rw [List.any_eq_true] at h5
      obtain ⟨j, hj, h6⟩ := h5
      rw [Bool.and_eq_true] at h6
      have := hd j hj h6.1
      have h7 := h6.2
      rw [show (ds.getD s []).contains j = true by simpa using this] at h7
      cases h7
    · rw [List.any_eq_true] at h5
      obtain ⟨⟨t1, t2⟩, ht, h6⟩ := h5
      simp only [Bool.and_eq_true, List.all_eq_true] at h6
      obtain ⟨⟨h7, h8⟩, h9⟩ := h6
      have e := Nat.eq_of_beq_eq_true h7
      subst e
      refine ⟨t2, ht, blt_lt h8, fun j hj => ?_⟩
      have h10 := h9 j hj
      simp only [beq_iff_eq] at h10
      have e1 : (j ∈ ds.getD t2 []) ↔ (ds.getD t2 []).contains j = true := by simp
      have e2 : (j ∈ ds.getD t1 []) ↔ (ds.getD t1 []).contains j = true := by simp
      rw [e1, e2, h10, Bool.or_eq_true]
      exact or_congr Iff.rfl ⟨fun h => Nat.eq_of_beq_eq_true h, fun h => by rw [h]; exact beq_self _⟩
section
variable {P : Program} {n : Nat} {w0 w1 : World} {rs : List Res} {Q : Exit → Act → World → Prop}
/-- What is to be shown of a chain's operation: at each state at which it may come. -/
def AllTr (F : Nat → Nat → Prop) : List (Nat × Nat) → Prop
  | [] => True
  | t :: ts => F t.1 t.2 ∧ AllTr F ts
theorem AllTr.get {F : Nat → Nat → Prop} : ∀ {ts : List (Nat × Nat)}, AllTr F ts → ∀ s s2, (s, s2) ∈ ts → F s s2
  | t :: ts, h, s, s2, hm => by
    rcases List.mem_cons.1 hm with e | hm
    · rw [← e] at h; exact h.1
    · exact AllTr.get h.2 s s2 hm
/-- What is to be shown of number i. -/
def StepG (P : Program) (n : Nat) (w0 w1 : World) (rs : List Res) (Q : Exit → Act → World → Prop) (ws : List Nat) (ds : List (List Nat)) (tr : List (List (Nat × Nat))) (C : Nat → Cp w0 w1 rs) (l : List Oper) (F : List Pq) (f0 : Nat → Value) (i : Nat) (o : Oper) (p : Pq) : Prop :=
  match wix ws i 0 with
  | some q => onOfq l F o = true ∧ AllTr (fun s s2 => ∀ f W, (C s).p ((ds.getD s []).map (uAt l f)) W → (∀ j d, dep l i j = true → dstOf l j = some d → (F.getD j Pq.off).p f (f d)) → (∀ t, keepAt l i t = true → f t = f0 t) → Stp P n o f W Q (fun v W' => (C s2).p ((ds.getD s2 []).map (uAt l (putF f o.dst v))) W' ∧ p.p f v)) (tr.getD q [])
  | none => ∀ f W, St w0 W rs → Below w1.heap.size w1 W → (∀ j d, dep l i j = true → dstOf l j = some d → (F.getD j Pq.off).p f (f d)) → (∀ t, keepAt l i t = true → f t = f0 t) →
      cond (onOfq l F o) (Stp P n o f W Q (fun v W' => Below W.heap.size W W' ∧ p.p f v)) (p.p f undef)
def AllG (P : Program) (n : Nat) (w0 w1 : World) (rs : List Res) (Q : Exit → Act → World → Prop) (ws : List Nat) (ds : List (List Nat)) (tr : List (List (Nat × Nat))) (C : Nat → Cp w0 w1 rs) (l : List Oper) (F : List Pq) (f0 : Nat → Value) : Nat → List Oper → List Pq → Prop
  | _, [], [] => True
  | i, o :: os, p :: ps => StepG P n w0 w1 rs Q ws ds tr C l F f0 i o p ∧ AllG P n w0 w1 rs Q ws ds tr C l F f0 (i + 1) os ps
  | _, _, _ => False
theorem AllG.get {ws : List Nat} {ds : List (List Nat)} {tr : List (List (Nat × Nat))} {C : Nat → Cp w0 w1 rs} {l : List Oper} {F : List Pq} {f0 : Nat → Value} : ∀ {os : List Oper} {ps : List Pq} {k : Nat}, AllG P n w0 w1 rs Q ws ds tr C l F f0 k os ps → ∀ i o, os[i]? = some o → ∃ p, ps[i]? = some p ∧ StepG P n w0 w1 rs Q ws ds tr C l F f0 (k + i) o p
  | o :: os, p :: ps, k, h, 0, o', hi => by simp at hi; subst hi; exact ⟨p, rfl, h.1⟩
  | o :: os, p :: ps, k, h, i + 1, o', hi => by
    obtain ⟨q, hq, hs⟩ := AllG.get h.2 i o' (by simpa using hi)
    exact ⟨q, by simpa using hq, by rw [← Nat.add_assoc, Nat.add_right_comm]; exact hs⟩
  | [], _, _, _, i, o', hi => by simp at hi
  | o :: os, [], _, h, _, _, _ => h.elim
theorem lookOk_get {l : List Oper} {F : List Pq} (h : lookOk l F = true) : ∀ i, i < l.length → ∀ t ∈ (F.getD i Pq.off).look, ∃ j, dep l i j = true ∧ dstOf l j = some t := by
  intro i hi t ht
  unfold lookOk at h
  rw [List.all_eq_true] at h
  have h1 := h i (by simpa using hi)
  rw [List.all_eq_true] at h1
  have h2 := h1 t ht
  rw [List.any_eq_true] at h2
  obtain ⟨j, _, h3⟩ := h2
  rw [Bool.and_eq_true] at h3
  refine ⟨j, h3.1, ?_⟩
  cases hd : dstOf l j with
  | none => rw [hd] at h3; exact absurd h3.2 (by simp)
  | some d => rw [hd] at h3; rw [Nat.eq_of_beq_eq_true h3.2]
structure InvG (w0 w1 : World) (rs : List Res) (ws : List Nat) (ds : List (List Nat)) (C : Nat → Cp w0 w1 rs) (l : List Oper) (m : Nat) (F : List Pq) (f0 : Nat → Value) (L : Array Bool) (f : Nat → Value) (W : World) : Prop where
  size : L.size = l.length + m
  tail : ∀ i, l.length ≤ i → i < L.size → L[i]? = some false
  ex : ∃ s, s < ds.length ∧ (∀ i, i ∈ ws → (L[i]? = some true ↔ i ∈ ds.getD s [])) ∧ (C s).p ((ds.getD s []).map (uAt l f)) W
  vals : ∀ i d, i < l.length → L[i]? = some true → dstOf l i = some d → (F.getD i Pq.off).p f (f d)
  keep : ∀ t, (∀ i, i < l.length → L[i]? = some true → dstOf l i ≠ some t) → f t = f0 t
  down : ∀ i j, i < l.length → L[i]? = some true → dep l i j = true → L[j]? = some true
theorem any_mainG {ws : List Nat} {ds : List (List Nat)} {tr : List (List (Nat × Nat))} {C : Nat → Cp w0 w1 rs} {l tl : List Oper} {F : List Pq} {f0 : Nat → Value} (ho : OrdOk n l) (hws : GrOk l ws ds tr) (hfx : lookOk l F = true) (hs : AllG P n w0 w1 rs Q ws ds tr C l F f0 0 l F)
    (ht : ∀ i o, l.length ≤ i → (l ++ tl)[i]? = some o → (∃ j, l.length ≤ j ∧ dep (l ++ tl) i j = true) ∨ ∀ j, j < l.length → dep (l ++ tl) i j = true ∨ ∃ m, j < m ∧ m < l.length ∧ dep l m j = true)
    (fin : ∀ fuel L f W, tl.length ≤ fuel → (∀ i, i < l.length → L[i]? = some true) → InvG w0 w1 rs ws ds C l tl.length F f0 L f W → wpAny P .any (l ++ tl).toArray Q fuel L (act n f) W) :
    ∀ fuel L f W, InvG w0 w1 rs ws ds C l tl.length F f0 L f W → (L.toList.countP (fun b => !b)) ≤ fuel → wpAny P .any (l ++ tl).toArray Q fuel L (act n f) W := by
  intro fuel
  induction fuel with
  | zero =>
    intro L f W hI hc
    have hall : ∀ i, i < L.size → L[i]? = some true := by
      intro i hi
      have h0 : L.toList.countP (fun b => !b) = 0 := by omega
      rw [List.countP_eq_zero] at h0
      have := h0 L[i] (by simp)
      rw [Array.getElem?_eq_getElem hi]
      simpa using this
    have htl : tl.length = 0 := by
      by_cases h : tl.length = 0
      · exact h
      · have h1 := hI.tail l.length (Nat.le_refl _) (by rw [hI.size]; omega)
        have h2 := hall l.length (by rw [hI.size]; omega)
        rw [h1] at h2; cases h2
    exact fin 0 L f W (by omega) (fun i hi => hall i (by rw [hI.size]; omega)) hI
  | succ fuel ih =>
    intro L f W hI hc
    by_cases hall : ∀ i, i < l.length → L[i]? = some true
    · refine fin (fuel + 1) L f W ?_ hall hI
      have : tl.length ≤ L.toList.countP (fun b => !b) := by
        have e : L.toList = L.toList.take l.length ++ L.toList.drop l.length := (List.take_append_drop _ _).symm
        rw [e, List.countP_append]
        have : (L.toList.drop l.length).countP (fun b => !b) = (L.toList.drop l.length).length := by
          rw [List.countP_eq_length]
          intro b hb
          obtain ⟨j, hj⟩ := List.mem_iff_getElem?.1 hb
          rw [List.getElem?_drop, Array.getElem?_toList] at hj
          have hlt : l.length + j < L.size := (Array.getElem?_eq_some_iff.1 hj).1
          rw [hI.tail _ (by omega) hlt] at hj
          cases hj; rfl
        rw [this, List.length_drop]
        have h3 := hI.size
        have h4 : L.toList.length = L.size := Array.length_toList
        omega
      omega
    · -- the least that has not come up
      have hex : ∃ i, i < l.length ∧ L[i]? = some false := by
        apply Classical.byContradiction
        intro hn
        apply hall
        intro i hi
        cases h : L[i]? with
        | none => rw [Array.getElem?_eq_none_iff, hI.size] at h; omega
        | some b =>
          cases b
          · exact absurd ⟨i, hi, h⟩ hn
          · rfl
      obtain ⟨i0, ⟨hi0, hf0⟩, hmin⟩ := least hex
      have hlen : (l ++ tl).length = l.length + tl.length := List.length_append
      have hready : i0 ∈ Region.ready .any (l ++ tl).toArray L := by
        unfold Region.ready
        rw [List.mem_filter]
        obtain ⟨o, hoo⟩ : ∃ o, l[i0]? = some o := ⟨_, List.getElem?_eq_getElem hi0⟩
        have hoo' : (l ++ tl)[i0]? = some o := by rw [List.getElem?_append_left hi0]; exact hoo
        refine ⟨by rw [List.mem_range, List.size_toArray, hlen]; omega, ?_⟩
        rw [Array.getD_eq_getD_getElem?, hf0]
        simp only [Option.getD_some, Bool.not_false, Bool.true_and, List.getElem?_toArray, hoo', Option.map_some]
        rw [Array.all_eq_true_iff_forall_mem]
        intro e he
        by_cases hb : Region.binds .any e = true
        · have hd := dep_of hoo he hb
          have hj := ho.lt i0 e.on hi0 hd
          have : L[e.on]? = some true := by
            cases h : L[e.on]? with
            | none => rw [Array.getElem?_eq_none_iff, hI.size] at h; omega
            | some b =>
              cases b
              · have := hmin e.on ⟨by omega, h⟩; omega
              · rfl
          rw [getD_t.2 this]; simp
        · simp only [Bool.not_eq_true] at hb
          rw [hb]; rfl
      refine ⟨fun h => (by rw [h] at hready; cases hready), ?_⟩
      intro i hi
      unfold Region.ready at hi
      rw [List.mem_filter, List.mem_range, List.size_toArray, hlen] at hi
      obtain ⟨hilt, hi⟩ := hi
      obtain ⟨o, hoo⟩ : ∃ o, (l ++ tl)[i]? = some o := ⟨_, List.getElem?_eq_getElem (by rw [hlen]; exact hilt)⟩
      simp only [List.getElem?_toArray, hoo, Option.map_some, Option.getD_some, Bool.and_eq_true, Bool.not_eq_true'] at hi
      obtain ⟨hun, hdep⟩ := hi
      have hun' : L[i]? = some false := by
        rw [Array.getD_eq_getD_getElem?] at hun
        cases h : L[i]? with
        | none => rw [h] at hun; cases hun
        | some b => rw [h] at hun; simp at hun; rw [hun]
      rw [Array.all_eq_true_iff_forall_mem] at hdep
      have hdep' : ∀ e ∈ o.after, Region.binds .any e = true → L[e.on]? = some true := by
        intro e he hb
        have := hdep e he
        rw [hb] at this
        exact getD_t.1 (by simpa using this)
      have hiN : i < l.length := by
        by_cases h : i < l.length
        · exact h
        · exfalso
          rcases ht i o (by omega) hoo with ⟨j, hj, hd⟩ | hcov
          · obtain ⟨e, he, heq, hb⟩ := of_dep hoo hd
            have h1 := hdep' e he hb
            rw [heq] at h1
            rw [hI.tail j hj (Array.getElem?_eq_some_iff.1 h1).1] at h1
            cases h1
          · have key : ∀ m j, l.length - j = m → j < l.length → L[j]? = some true := by
              intro m
              induction m using Nat.strongRecOn with
              | _ m ihm =>
                intro j hm hj
                rcases hcov j hj with hd | ⟨m', h1, h2, h3⟩
                · obtain ⟨e, he, heq, hb⟩ := of_dep hoo hd
                  rw [← heq]; exact hdep' e he hb
                · exact hI.down m' j h2 (ihm (l.length - m') (by omega) m' rfl h2) h3
            have := key _ i0 rfl hi0
            rw [hf0] at this
            cases this
      have hol : l[i]? = some o := by rw [List.getElem?_append_left hiN] at hoo; exact hoo
      obtain ⟨p, hp, hstep⟩ := hs.get i o hol
      rw [Nat.zero_add] at hstep
      have hpF : F.getD i Pq.off = p := by rw [List.getD_eq_getElem?_getD, hp]; rfl
      have hdl : ∀ j, dep l i j = true → L[j]? = some true := by
        intro j hj
        obtain ⟨e, he, heq, hb⟩ := of_dep hol hj
        rw [← heq]; exact hdep' e he hb
      have hdp : ∀ j d, dep l i j = true → dstOf l j = some d → (F.getD j Pq.off).p f (f d) := (fun j d hj hd => hI.vals j d (by have := ho.lt i j hiN hj; omega) (hdl j hj) hd)
      have hkp : ∀ t, keepAt l i t = true → f t = f0 t := (fun t hk => by
        refine hI.keep t (fun j hjN hj hd => ?_)
        unfold keepAt at hk
        rw [List.all_eq_true] at hk
        have := hk j (by simpa using hjN)
        rw [hd] at this
        simp only [beq_self, Bool.not_true, Bool.or_false, Bool.or_eq_true] at this
        rcases this with h | h
        · rw [Nat.eq_of_beq_eq_true h, hun'] at hj; cases hj
        · have := hI.down j i hjN hj h
          rw [hun'] at this; cases this)
      have hput : ∀ v t, (∀ d, o.dst = some d → d ≠ t) → putF f o.dst v t = f t := by
        intro v t h
        cases hod : o.dst with
        | none => rfl
        | some d' =>
          simp only [putF, upd]
          rw [beq_f (fun e' => h d' hod e'.symm)]; rfl
      have hlook : ∀ j, j < l.length → (j = i ∨ L[j]? = some true) → ∀ v, ∀ t ∈ (F.getD j Pq.off).look, f t = putF f o.dst v t := by
        intro j hjN hj v t ht
        obtain ⟨k, hk1, hk2⟩ := lookOk_get hfx j hjN t ht
        have hkj := ho.lt j k hjN hk1
        have hkL : L[k]? = some true := by
          rcases hj with rfl | hj
          · exact hdl k hk1
          · exact hI.down j k hjN hj hk1
        refine (hput v t (fun d hd e => ?_)).symm
        have hki : k ≠ i := fun e' => by rw [e', hun'] at hkL; cases hkL
        exact ho.ne k i t (by omega) hiN hki hk2 (by rw [show dstOf l i = o.dst by simp [dstOf, hol], hd, e])
      have next : ∀ v W', (∃ s, s < ds.length ∧ (∀ j, j ∈ ws → ((L.setIfInBounds i true)[j]? = some true ↔ j ∈ ds.getD s [])) ∧ (C s).p ((ds.getD s []).map (uAt l (putF f o.dst v))) W') → p.p f v → wpAny P .any (l ++ tl).toArray Q fuel (L.setIfInBounds i true) (act n (putF f o.dst v)) W' := by
        intro v W' hex hv
        have hdo : dstOf l i = o.dst := by simp [dstOf, hol]
        have hsz : i < L.size := (Array.getElem?_eq_some_iff.1 hun').1
        have hother : ∀ j, j ≠ i → (L.setIfInBounds i true)[j]? = L[j]? := fun j hj => by rw [Array.getElem?_setIfInBounds, if_neg (fun e => hj e.symm)]
        have hself : (L.setIfInBounds i true)[i]? = some true := by rw [Array.getElem?_setIfInBounds]; simp [hsz]
        refine ih _ _ _ ⟨by simpa using hI.size, ?_, hex, ?_, ?_, ?_⟩ ?_
        · intro j hj hjs
          rw [hother j (by omega)]
          exact hI.tail j hj (by simpa using hjs)
        · intro j d hj hl hd
          by_cases e : j = i
          · subst e
            rw [hpF]
            rw [hdo] at hd
            have hv2 := p.fr (by rw [← hpF]; exact hlook j hiN (.inl rfl) v) hv
            have e3 : putF f o.dst v d = v := by rw [hd]; simp only [putF, upd, beq_self, cond_true]
            rw [e3]
            exact hv2
          · rw [hother j e] at hl
            have hold := hI.vals j d hj hl hd
            have : putF f o.dst v d = f d := by
              cases hod : o.dst with
              | none => rfl
              | some d' =>
                simp only [putF, upd]
                rw [beq_f (fun e' => ho.ne j i d hj hiN e hd (by rw [hdo, hod, e']))]; rfl
            rw [this]
            exact (F.getD j Pq.off).fr (hlook j hj (.inr hl) v) hold
        · intro t hk
          have hne : o.dst ≠ some t := by rw [← hdo]; exact hk i hiN hself
          have : putF f o.dst v t = f t := by
            cases hod : o.dst with
            | none => rfl
            | some d' =>
              simp only [putF, upd]
              rw [beq_f (fun e' => hne (by rw [hod, e']))]; rfl
          rw [this]
          refine hI.keep t (fun j hj hl => ?_)
          by_cases e : j = i
          · subst e; rw [hdo]; exact hne
          · exact hk j hj (by rw [hother j e]; exact hl)
        · intro j k hj hl hd
          by_cases e : j = i
          · subst e
            have hk := hdl k hd
            by_cases e2 : k = j
            · subst e2; exact hself
            · rw [hother k e2]; exact hk
          · rw [hother j e] at hl
            have hk := hI.down j k hj hl hd
            by_cases e2 : k = i
            · subst e2; exact hself
            · rw [hother k e2]; exact hk
        · have hcount : (L.setIfInBounds i true).toList.countP (fun b => !b) + 1 = L.toList.countP (fun b => !b) := by
            rw [Array.toList_setIfInBounds]
            have hget : L.toList[i]? = some false := by rw [Array.getElem?_toList]; exact hun'
            exact count_set _ _ hget
          omega
      unfold wpOp
      simp only [List.getElem?_toArray, hoo]
      have hw : Region.wanted o (yielded (l ++ tl).toArray (act n f).tmps) = onOfq l F o := by
        unfold Region.wanted onOfq
        cases hg : o.guard with
        | none => rfl
        | some jw =>
          obtain ⟨j, w⟩ := jw
          obtain ⟨hd, dd, hdd⟩ := ho.guard i o j w hol hg
          have hjN : j < l.length := by have := ho.lt i j hiN hd; omega
          have hv := hI.vals j dd hjN (hdl j hd) hdd
          have hy := (F.getD j Pq.off).yld hv
          have hdn := ho.dst j dd hjN hdd
          have : yielded (l ++ tl).toArray (act n f).tmps j = (F.getD j Pq.off).b := by
            rw [← hy]
            unfold yielded
            have e1 : (((l ++ tl).toArray[j]?).bind (·.dst)) = some dd := by
              rw [List.getElem?_toArray, List.getElem?_append_left hjN]; exact hdd
            rw [e1]
            simp only [Option.bind_some]
            have e2 : (act n f).tmps[dd]? = some (f dd) := by simp [act, hdn]
            rw [e2]
            cases f dd <;> rfl
          simp only [this]
      rw [hw]
      obtain ⟨c, hc, hiff, hst⟩ := hI.ex
      have hsz : i < L.size := (Array.getElem?_eq_some_iff.1 hun').1
      have hother : ∀ j, j ≠ i → (L.setIfInBounds i true)[j]? = L[j]? := fun j hj => by rw [Array.getElem?_setIfInBounds, if_neg (fun e => hj e.symm)]
      have hself : (L.setIfInBounds i true)[i]? = some true := by rw [Array.getElem?_setIfInBounds]; simp [hsz]
      unfold StepG at hstep
      have huat : ∀ v k, k < ds.length → i ∉ ds.getD k [] → (ds.getD k []).map (uAt l (putF f o.dst v)) = (ds.getD k []).map (uAt l f) := by
        intro v k hk hne
        apply List.map_congr_left
        intro x hx
        have hxw := hws.sub k hk x hx
        unfold uAt
        cases hxd : dstOf l x with
        | none => rfl
        | some d =>
          refine hput v d (fun d' hd' e => ?_)
          have hxi : x ≠ i := fun e' => hne (by rw [← e']; exact hx)
          exact ho.ne x i d (hws.lt x hxw) hiN hxi hxd (by rw [show dstOf l i = o.dst by simp [dstOf, hol], hd', e])
      cases hq : wix ws i 0 with
      | some q =>
        rw [hq] at hstep
        simp only at hstep
        obtain ⟨j, e1, e2⟩ := wix_some hq
        have hiw : i ∈ ws := List.mem_of_getElem? e2
        have hic : i ∉ ds.getD c [] := fun h => by rw [(hiff i hiw).2 h] at hun'; cases hun'
        obtain ⟨s2, ht2, hs2, hset⟩ := hws.go c i q hc hiw hq hic (fun j hj hd => (hiff j hj).1 (hdl j hd))
        have hc2 : ∀ j, j ∈ ws → ((L.setIfInBounds i true)[j]? = some true ↔ j ∈ ds.getD s2 []) := by
          intro j hj
          rw [hset j hj]
          by_cases e : j = i
          · subst e
            rw [hself]
            exact ⟨fun _ => .inr rfl, fun _ => rfl⟩
          · rw [hother j e, hiff j hj]
            exact ⟨fun h => .inl h, fun h => h.resolve_right e⟩
        rw [hstep.1]
        simp only [if_true]
        exact .inl (Oper.wp_mono (fun a' w' ⟨v, e, hb, hv⟩ => by rw [e]; exact next v w' ⟨s2, hs2, hc2, hb⟩ hv) (hstep.2.get c s2 ht2 f W hst hdp hkp).out)
      | none =>
        rw [hq] at hstep
        simp only at hstep
        have hni := wix_none hq
        have hiw : i ∉ ws := fun h => by
          obtain ⟨j, hj⟩ := List.mem_iff_getElem?.1 h
          exact hni j hj
        have hex : ∀ v W', Below W.heap.size W W' → ∃ s, s < ds.length ∧ (∀ j, j ∈ ws → ((L.setIfInBounds i true)[j]? = some true ↔ j ∈ ds.getD s [])) ∧ (C s).p ((ds.getD s []).map (uAt l (putF f o.dst v))) W' := fun v W' h =>
          ⟨c, hc, fun j hj => by rw [hother j (fun e => hiw (by rw [← e]; exact hj))]; exact hiff j hj, by rw [huat v c hc (fun h => hiw (hws.sub c hc i h))]; exact (C c).up hst h⟩
        have h1 := hstep f W ((C c).st hst) ((C c).bl hst) hdp hkp
        cases hon : onOfq l F o with
        | true =>
          rw [hon] at h1
          simp only [cond_true] at h1
          simp only [if_true]
          exact .inl (Oper.wp_mono (fun a' w' ⟨v, e, hb, hv⟩ => by rw [e]; exact next v w' (hex v w' hb) hv) h1.out)
        | false =>
          rw [hon] at h1
          simp only [cond_false] at h1
          simp only [Bool.false_eq_true, if_false]
          rw [act_put]
          exact next undef W (hex undef W (Below.refl _ _)) h1

theorem inv_startG {ws : List Nat} {ds : List (List Nat)} {C : Nat → Cp w0 w1 rs} {l : List Oper} {m : Nat} {F : List Pq} {f0 : Nat → Value} {W : World} (hp : 0 < ds.length) (hz : ds.getD 0 [] = []) (hst : (C 0).p [] W) : InvG w0 w1 rs ws ds C l m F f0 (Array.replicate (l.length + m) false) f0 { W with drawn := W.drawn + 1 } := by
  have hb : Below W.heap.size W { W with drawn := W.drawn + 1 } := (Below.refl _ _).drew
  have hno : ∀ i : Nat, (Array.replicate (l.length + m) false)[i]? ≠ some true := by
    intro i h
    rw [Array.getElem?_replicate] at h
    split at h <;> cases h
  refine ⟨by simp, ?_, ⟨0, hp, fun i _ => ⟨fun h => absurd h (hno i), fun h => by rw [hz] at h; cases h⟩, by rw [hz]; exact (C 0).up hst hb⟩, ?_, fun _ _ => rfl, ?_⟩
  · intro i _ h
    rw [Array.getElem?_replicate, if_pos (by simpa using h)]
  · intro i d _ h; exact absurd h (hno i)
  · intro i j _ h; exact absurd h (hno i)
theorem sx_anyGT {id : Nat} {l : List Oper} (tl : List Oper) (ws : List Nat) (ds : List (List Nat)) (tr : List (List (Nat × Nat))) (C : Nat → Cp w0 w1 rs) {W : World} {f0 : Nat → Value} (F : List Pq) (hm : P.follows .mixedOrders = true) (ho : ordOk n l = true) (hT : tailOk l tl = true) (hiw : grOk l ws ds tr = true)
    (hst : (C 0).p [] W) (hfx : lookOk l F = true) (hs : AllG P n w0 w1 rs Q ws ds tr C l F f0 0 l F)
    (fin : ∀ f W', (C (ds.length - 1)).p ((ds.getD (ds.length - 1) []).map (uAt l f)) W' → (∀ i d, i < l.length → dstOf l i = some d → (F.getD i Pq.off).p f (f d)) → (∀ t, keepAll l t = true → f t = f0 t) → Wl P (l ++ tl).toArray Q tl n f W') :
    (Code.region id (l ++ tl).toArray true).wp P Q (act n f0) W := by
  refine wp_region_any hm ?_
  have h := any_mainG (ws := ws) (ds := ds) (tr := tr) (C := C) (tl := tl) (OrdOk.of ho) (GrOk.of hiw) hfx hs (tail_ht hT) ?_ (l.length + tl.length) (Array.replicate (l.length + tl.length) false) f0 { W with drawn := W.drawn + 1 } (inv_startG (GrOk.of hiw).pos (GrOk.of hiw).zero hst) ?_
  · simpa using h
  · intro fuel L f W' hfuel hall hI
    have hall2 : (C (ds.length - 1)).p ((ds.getD (ds.length - 1) []).map (uAt l f)) W' := by
      obtain ⟨c, hc, hiff, hst⟩ := hI.ex
      have := (GrOk.of hiw).last c hc (fun j hj => (hiff j hj).1 (hall j ((GrOk.of hiw).lt j hj)))
      have e : c = ds.length - 1 := by omega
      rw [e] at hst; exact hst
    have hf := fin f W' hall2 (fun i d hi hd => hI.vals i d hi (hall i hi) hd) (fun t ht => hI.keep t (fun i hi _ => keepAll_ne ht i hi))
    exact any_tail hT tl.length 0 fuel L _ W' (by omega) (Nat.zero_le _) hfuel hI.size (fun j hj => hall j (by omega)) (fun j hj hjs => hI.tail j (by omega) hjs) (by simpa using hf.out)
  · have := List.countP_le_length (p := fun b => !b) (l := (Array.replicate (l.length + tl.length) false).toList)
    simpa using this
theorem any_tail0 {l : List Oper} : ∀ (fuel : Nat) (L : Array Bool) (a : Act) (W : World), (∀ j, j < l.length → L[j]? = some true) → Q .normal a W → wpAny P .any l.toArray Q fuel L a W := by
  intro fuel L a W hall h
  have hr : Region.ready .any l.toArray L = [] := by
    unfold Region.ready
    rw [List.filter_eq_nil_iff]
    intro i hi
    rw [List.mem_range, List.size_toArray] at hi
    rw [Array.getD_eq_getD_getElem?, hall i hi]
    simp
  cases fuel with
  | zero => exact ⟨hr, h⟩
  | succ fuel => exact ⟨fun _ => h, by rw [hr]; simp⟩
/-- The same, with no tail. -/
theorem sx_anyG0 {id : Nat} {l : List Oper} (ws : List Nat) (ds : List (List Nat)) (tr : List (List (Nat × Nat))) (C : Nat → Cp w0 w1 rs) {W : World} {f0 : Nat → Value} (F : List Pq) (hm : P.follows .mixedOrders = true) (ho : ordOk n l = true) (hiw : grOk l ws ds tr = true)
    (hst : (C 0).p [] W) (hfx : lookOk l F = true) (hs : AllG P n w0 w1 rs Q ws ds tr C l F f0 0 l F)
    (fin : ∀ f W', (C (ds.length - 1)).p ((ds.getD (ds.length - 1) []).map (uAt l f)) W' → (∀ i d, i < l.length → dstOf l i = some d → (F.getD i Pq.off).p f (f d)) → (∀ t, keepAll l t = true → f t = f0 t) → Q .normal (act n f) W') :
    (Code.region id l.toArray true).wp P Q (act n f0) W := by
  refine wp_region_any hm ?_
  have h := any_mainG (ws := ws) (ds := ds) (tr := tr) (C := C) (tl := []) (OrdOk.of ho) (GrOk.of hiw) hfx hs (by intro i o hi h; rw [List.append_nil] at h; have := (List.getElem?_eq_some_iff.1 h).1; omega) ?_ (l.length + 0) (Array.replicate (l.length + 0) false) f0 { W with drawn := W.drawn + 1 } (inv_startG (GrOk.of hiw).pos (GrOk.of hiw).zero hst) ?_
  · simpa using h
  · intro fuel L f W' hfuel hall hI
    have hall2 : (C (ds.length - 1)).p ((ds.getD (ds.length - 1) []).map (uAt l f)) W' := by
      obtain ⟨c, hc, hiff, hst⟩ := hI.ex
      have := (GrOk.of hiw).last c hc (fun j hj => (hiff j hj).1 (hall j ((GrOk.of hiw).lt j hj)))
      have e : c = ds.length - 1 := by omega
      rw [e] at hst; exact hst
    have hf := fin f W' hall2 (fun i d hi hd => hI.vals i d hi (hall i hi) hd) (fun t ht => hI.keep t (fun i hi _ => keepAll_ne ht i hi))
    rw [List.append_nil]
    exact any_tail0 fuel L _ W' (fun j hj => hall j hj) hf
  · have := List.countP_le_length (p := fun b => !b) (l := (Array.replicate (l.length + 0) false).toList)
    simpa using this
theorem sx_anyG {id : Nat} {l : List Oper} (k : Nat) (ws : List Nat) (ds : List (List Nat)) (tr : List (List (Nat × Nat))) (C : Nat → Cp w0 w1 rs) {W : World} {f0 : Nat → Value} (F : List Pq) (hm : P.follows .mixedOrders = true) (ho : ordOk n (l.take k) = true) (hT : tailOk (l.take k) (l.drop k) = true) (hiw : grOk (l.take k) ws ds tr = true)
    (hst : (C 0).p [] W) (hfx : lookOk (l.take k) F = true) (hs : AllG P n w0 w1 rs Q ws ds tr C (l.take k) F f0 0 (l.take k) F)
    (fin : ∀ f W', (C (ds.length - 1)).p ((ds.getD (ds.length - 1) []).map (uAt (l.take k) f)) W' → (∀ i d, i < (l.take k).length → dstOf (l.take k) i = some d → (F.getD i Pq.off).p f (f d)) → (∀ t, keepAll (l.take k) t = true → f t = f0 t) → Wl P l.toArray Q (l.drop k) n f W') :
    (Code.region id l.toArray true).wp P Q (act n f0) W := by
  have h := sx_anyGT (id := id) (l := l.take k) (l.drop k) ws ds tr C F hm ho hT hiw hst hfx hs (by rw [List.take_append_drop]; exact fin)
  rwa [List.take_append_drop] at h
end
end Go.Proofs.YtchnllpegfbleaaDoor

/-
  Appending an element with memory of its own, all of which the call owns.
-/
namespace Go.Proofs.YtchnllpegfbleaaDoor
set_option linter.unusedSimpArgs false
set_option linter.unusedVariables false
open Go.RowKit
section
variable {P : Program} {n : Nat} {f : Nat → Value} {w0 W : World} {rs : List Res} {Q : Exit → Act → World → Prop} {d : Option Tmp} {ty : TypeId} {pos : String} {af : Array Go.Edge} {g : Option (Nat × Bool)} {K : Value → World → Prop} {α : Type} [Shape α]
theorem stp_append_own {t e : TypeId} {bytes : Nat} {s x : Operand} {v : Value} {xs : List α} {z : α} {fe fz : List Nat} {b : Nat} {cs : List Value} (hT : ApOk P t e α bytes) (hs : ev n f s = v) (hx : ev n f x = .slice (some ⟨b, 0, none⟩) 1 1)
    (hst : St w0 W (Res.row e v xs fe :: Res.bx b cs e :: Res.cs cs z fz :: rs)) (h63 : xs.length + 1 ≤ maxLen) (hby : (xs.length + 1) * bytes ≤ 140737488355328)
    (k : ∀ v' W', St w0 W' (Res.row e v' (xs ++ [z]) (fe ++ fz) :: rs) → K v' W') :
    Stp P n ⟨d, .call { callee := .builtin .append, args := #[s, x], argTypes := #[t, t] }, ty, pos, af, g⟩ f W Q K := by
  have hc := hst.get 2 rfl
  have hst2 : St w0 W (Res.row e v xs fe :: Res.bx b cs e :: rs) := hst.d2
  have hb := hst.get 1 rfl
  have hnd := hst.nodup
  simp only [List.flatMap_cons, List.nodup_append] at hnd
  refine stp_append hT hs hx (m := 1) rfl hst.d2 (Elems.single hc.1) ?_ hc.2 ?_ ?_ h63 hby ?_
  · intro j u hj
    rw [Addr.add_mid]
    exact range_of_heap hb j u hj
  · exact hnd.2.1.2.1.1
  · intro c hcz
    refine ⟨fun hm => ?_, fun hm => ?_, hst.fresh _ (List.mem_cons_of_mem _ (List.mem_cons_of_mem _ (List.mem_cons_self ..))) c hcz⟩
    · exact hnd.2.2 c hm c (List.mem_append_right _ (List.mem_append_left _ hcz)) rfl
    · rw [List.flatMap_cons] at hm
      rcases List.mem_append.1 hm with hm | hm
      · exact hnd.2.1.2.2 c hm c (List.mem_append_left _ hcz) rfl
      · exact hnd.2.1.2.1.2.2 c hcz c hm rfl
  · intro v' W' h
    exact k v' W' h.d1
/-- The same, what is known of the new element's cells being kept. -/
def Res.rowz (e : TypeId) (v : Value) (xs : List α) (fe : List Nat) (cs : List Value) (z : α) (fz : List Nat) : Res where
  fp := (Res.row e v (xs ++ [z]) (fe ++ fz)).fp
  holds := fun W => (Res.row e v (xs ++ [z]) (fe ++ fz)).holds W ∧ Shape.C W cs z fz
  loc := fun hs hb h => ⟨(Res.row e v (xs ++ [z]) (fe ++ fz)).loc hs hb h.1, Shape.loc hs (fun b hm o => cell_of_heap (hb b (List.mem_append_right _ (List.mem_append_right _ hm))) o) h.2⟩
  wr := fun h => (Res.row e v (xs ++ [z]) (fe ++ fz)).wr h.1
theorem St.rowz {e : TypeId} {v : Value} {xs : List α} {fe fz : List Nat} {cs : List Value} {z : α} (h : St w0 W (Res.row e v (xs ++ [z]) (fe ++ fz) :: rs)) (hc : Shape.C W cs z fz) : St w0 W (Res.rowz e v xs fe cs z fz :: rs) :=
  ⟨h.below, h.nodup, fun r hr => by
    rcases List.mem_cons.1 hr with rfl | hr
    · exact h.fresh (Res.row e v (xs ++ [z]) (fe ++ fz)) (List.mem_cons_self ..)
    · exact h.fresh r (List.mem_cons_of_mem _ hr), fun r hr => by
    rcases List.mem_cons.1 hr with rfl | hr
    · exact ⟨h.get 0 rfl, hc⟩
    · exact h.holds r (List.mem_cons_of_mem _ hr)⟩
theorem St.zrow {e : TypeId} {v : Value} {xs : List α} {fe fz : List Nat} {cs : List Value} {z : α} (h : St w0 W (Res.rowz e v xs fe cs z fz :: rs)) : St w0 W (Res.row e v (xs ++ [z]) (fe ++ fz) :: rs) :=
  ⟨h.below, h.nodup, fun r hr => by
    rcases List.mem_cons.1 hr with rfl | hr
    · exact h.fresh (Res.rowz e v xs fe cs z fz) (List.mem_cons_self ..)
    · exact h.fresh r (List.mem_cons_of_mem _ hr), fun r hr => by
    rcases List.mem_cons.1 hr with rfl | hr
    · exact (h.get 0 rfl).1
    · exact h.holds r (List.mem_cons_of_mem _ hr)⟩
theorem stp_append_ownz {t e : TypeId} {bytes : Nat} {s x : Operand} {v : Value} {xs : List α} {z : α} {fe fz : List Nat} {b : Nat} {cs : List Value} (hT : ApOk P t e α bytes) (hs : ev n f s = v) (hx : ev n f x = .slice (some ⟨b, 0, none⟩) 1 1)
    (hst : St w0 W (Res.row e v xs fe :: Res.bx b cs e :: Res.cs cs z fz :: rs)) (h63 : xs.length + 1 ≤ maxLen) (hby : (xs.length + 1) * bytes ≤ 140737488355328)
    (k : ∀ v' W', St w0 W' (Res.rowz e v' xs fe cs z fz :: rs) → K v' W') :
    Stp P n ⟨d, .call { callee := .builtin .append, args := #[s, x], argTypes := #[t, t] }, ty, pos, af, g⟩ f W Q K := by
  have hc := hst.get 2 rfl
  have hb := hst.get 1 rfl
  have hnd := hst.nodup
  simp only [List.flatMap_cons, List.nodup_append] at hnd
  refine stp_appendk hT hs hx (m := 1) rfl hst.d2 (Elems.single hc.1) ?_ hc.2 ?_ ?_ h63 hby ?_
  · intro j u hj
    rw [Addr.add_mid]
    exact range_of_heap hb j u hj
  · exact hnd.2.1.2.1.1
  · intro c hcz
    refine ⟨fun hm => ?_, fun hm => ?_, hst.fresh _ (List.mem_cons_of_mem _ (List.mem_cons_of_mem _ (List.mem_cons_self ..))) c hcz⟩
    · exact hnd.2.2 c hm c (List.mem_append_right _ (List.mem_append_left _ hcz)) rfl
    · rw [List.flatMap_cons] at hm
      rcases List.mem_append.1 hm with hm | hm
      · exact hnd.2.1.2.2 c hm c (List.mem_append_left _ hcz) rfl
      · exact hnd.2.1.2.1.2.2 c hcz c hm rfl
  · intro v' W' h hsz hkp
    exact k v' W' (h.rowz (Shape.loc hsz (fun b hm o => cell_of_heap (hkp b hm) o) hc.1)).d1
end
end Go.Proofs.YtchnllpegfbleaaDoor

/-
  Pointers that are not nil; functions without results.
-/
namespace Go.Proofs.YtchnllpegfbleaaDoor
set_option linter.unusedSimpArgs false
set_option linter.unusedVariables false
open Go.RowKit
theorem then_exit {id : Nat} {K : Act → World → Prop} {Q : Exit → Act → World → Prop} {a : Act} {w : World} (h : Q (.exit id) a w) : Exit.then K Q (.exit id) a w := h
theorem blk_exit {id : Nat} {Q : Exit → Act → World → Prop} {a : Act} {w : World} (h : Q .normal a w) : Exit.inBlock id Q (.exit id) a w := by unfold Exit.inBlock; simpa using h
theorem blk_exitn {id i : Nat} {Q : Exit → Act → World → Prop} {a : Act} {w : World} (hn : Nat.beq i id = false) (h : Q (.exit i) a w) : Exit.inBlock id Q (.exit i) a w := by
  have : i ≠ id := fun e => by rw [e, Nat.beq_refl] at hn; cases hn
  unfold Exit.inBlock; simpa [this] using h
section
variable {P : Program} {n : Nat} {f : Nat → Value} {w0 W : World} {rs : List Res} {Q : Exit → Act → World → Prop} {d : Option Tmp} {ty : TypeId} {pos : String} {af : Array Go.Edge} {g : Option (Nat × Bool)} {K : Value → World → Prop}
theorem stp_nilCheck {x : Operand} {a : Addr} (hx : ev n f x = .pointer (some a)) (k : K (.pointer (some a)) W) : Stp P n ⟨d, .nilCheck x, ty, pos, af, g⟩ f W Q K :=
  Stp.run (v := .pointer (some a)) (by simp only [execOp, hx]; rfl) k
theorem ret0 {fn : Func} {R : Ending → World → Prop} (hr : fn.results = #[]) (h : R (.returned (.tuple #[])) W) : bodyPost P fn R .ret (act n f) W :=
  ⟨rfl, _, results_none hr _ _ _, h⟩
theorem end0 {fn : Func} {R : Ending → World → Prop} (hr : fn.results = #[]) (h : R (.returned (.tuple #[])) W) : bodyPost P fn R .normal (act n f) W :=
  ⟨rfl, _, results_none hr _ _ _, h⟩
end
theorem PA_one {v : Value} {k i b o : Nat} (h : PA v k i b o) : v.oneCell' = true := by obtain ⟨_, _, _, rfl, _⟩ := h; rfl
theorem tl_Sl {α : Type} [Shape α] {w W : World} {rs : List Res} {v : Value} {xs : List α} (h : ∀ W', St w W' rs → ∃ f, Sl W' v xs f) (st : St w W rs) : Sl W v xs (Classical.choose (h W st)) := Classical.choose_spec (h W st)
theorem PA_yl {v : Value} {k i b o : Nat} (h : PA v k i b o) : yl v = none := by obtain ⟨_, _, _, rfl, _⟩ := h; rfl
theorem idxq {α : Type} [Shape α] {w : World} {v : Value} {xs : List α} {fp : List Nat} (hs : Sl w v xs fp) {i : Nat} {y : α} (h : xs[i]? = some y) : ∃ b o cs f1, PA v (Shape.size α) i b o ∧ w.rangeAt b o cs ∧ Shape.C w cs y f1 ∧ ∀ c ∈ b :: f1, c ∈ fp := by
  obtain ⟨hl, rfl⟩ := List.getElem?_eq_some_iff.1 h
  exact idx hs hl
end Go.Proofs.YtchnllpegfbleaaDoor

/-
  Operations that only read, many at a time: what they lay down is reckoned by the kernel. Theory alone.
-/
namespace Go.Proofs.YtchnllpegfbleaaDoor
set_option linter.unusedSimpArgs false
set_option linter.unusedVariables false
open Go.RowKit

def look : List (Nat × Value) → Nat → Option Value
  | [], _ => none
  | (t, v) :: E, x => cond (Nat.beq x t) (some v) (look E x)
/-- What a frame holds. -/
def Ag (E : List (Nat × Value)) (f : Nat → Value) : Prop := ∀ t v, look E t = some v → f t = v
section
variable {E E' : List (Nat × Value)} {f : Nat → Value} {d t : Nat} {v : Value}
theorem Ag.at (h : Ag E f) (t : Nat) {v : Value} (e : look E t = some v := by rfl) : f t = v := h t v e
theorem Ag.nil : Ag [] f := fun _ _ h => by cases h
theorem Ag.cons (e : f t = v) (h : Ag E f) : Ag ((t, v) :: E) f := by
  intro x u hx
  unfold look at hx
  cases hb : Nat.beq x t with
  | true => rw [hb] at hx; simp only [cond_true, Option.some.injEq] at hx; rw [Nat.eq_of_beq_eq_true hb, e, hx]
  | false => rw [hb] at hx; exact h x u hx
def cut1 (t : Nat) : List (Nat × Value) → List (Nat × Value)
  | [] => []
  | (x, v) :: E => cond (Nat.beq x t) (cut1 t E) ((x, v) :: cut1 t E)
theorem cut1_look {x : Nat} : ∀ {E : List (Nat × Value)} {u : Value}, look (cut1 t E) x = some u → Nat.beq x t = false ∧ look E x = some u
  | [], u, h => by cases h
  | (y, w) :: E, u, h => by
    unfold cut1 at h
    cases hb : Nat.beq y t with
    | true =>
      rw [hb] at h
      obtain ⟨h1, h2⟩ := cut1_look h
      refine ⟨h1, ?_⟩
      unfold look
      have : Nat.beq x y = false := by rw [Nat.eq_of_beq_eq_true hb]; exact h1
      rw [this]; exact h2
    | false =>
      rw [hb] at h
      simp only [cond_false] at h
      unfold look at h
      cases hx : Nat.beq x y with
      | true =>
        rw [hx] at h
        refine ⟨by rw [Nat.eq_of_beq_eq_true hx]; exact hb, ?_⟩
        unfold look; rw [hx]; exact h
      | false =>
        rw [hx] at h
        obtain ⟨h1, h2⟩ := cut1_look h
        exact ⟨h1, by unfold look; rw [hx]; exact h2⟩
theorem Ag.up (e : f t = v) (h : Ag E f) : Ag ((t, v) :: cut1 t E) f := by
  refine Ag.cons e (fun x u hx => h x u (cut1_look hx).2)
theorem Ag.put (h : Ag E f) : Ag ((d, v) :: cut1 d E) (putF f (some d) v) := by
  intro x u hx
  unfold look at hx
  simp only [putF, upd]
  cases hb : Nat.beq x d with
  | true => rw [hb] at hx; simpa using hx
  | false => rw [hb] at hx; exact h x u (cut1_look hx).2
theorem Ag.kn {e r : Bool} (h : Ag E f) (t : Nat) (hk : e = r) (hl : look E t = some (.bool e) := by rfl) : Ag ((t, .bool r) :: cut1 t E) f := Ag.up (by rw [h t _ hl, hk]) h
theorem Ag.to (h : Ag E f) (e : E'.map (fun p => look E p.1) = E'.map (fun p => some p.2)) : Ag E' f := by
  induction E' with
  | nil => exact Ag.nil
  | cons p E' ih =>
    obtain ⟨t, v⟩ := p
    simp only [List.map_cons, List.cons.injEq] at e
    exact Ag.cons (h t v e.1) (ih e.2)
end
def lkO (n : Nat) (E : List (Nat × Value)) : Operand → Option Value
  | .tmp t => cond (Nat.ble (t + 1) n) (look E t) none
  | .const v => some v
  | .global g => some (.pointer (some ⟨g, 0, none⟩))
  | .func g => some (.func (.func g) #[] #[])
theorem lkO_ok {n : Nat} {E : List (Nat × Value)} {f : Nat → Value} (h : Ag E f) (x : Operand) (v : Value) (e : lkO n E x = some v) : ev n f x = v := by
  cases x with
  | tmp t =>
    simp only [lkO] at e
    cases hb : Nat.ble (t + 1) n with
    | true => rw [hb] at e; simp only [ev, hb, cond_true]; exact h t v e
    | false => rw [hb] at e; cases e
  | const u => simp only [lkO, Option.some.injEq] at e; exact e
  | global g => simp only [lkO, Option.some.injEq] at e; exact e
  | func g => simp only [lkO, Option.some.injEq] at e; exact e
/-! ### Types -/
def fOff (P : Program) (t i : Nat) : Option Nat :=
  match P.underlying t with
  | some (.struct fs) => (fs[i]?).bind fun fd => (P.info? fd.type).bind fun j => cond (Nat.beq j.size 0) none (some fd.offset)
  | _ => none
theorem fOff_ok {P : Program} {t i off : Nat} (h : fOff P t i = some off) : FieldOk P t i off := by
  unfold fOff at h
  split at h
  · next fs hu =>
    obtain ⟨fd, hf, h⟩ := Option.bind_eq_some_iff.1 h
    obtain ⟨j, hj, h⟩ := Option.bind_eq_some_iff.1 h
    cases hb : Nat.beq j.size 0 with
    | true => rw [hb] at h; cases h
    | false =>
      rw [hb] at h
      refine fieldOk hu hf (by simpa using h) ?_
      rw [hj]
      have : ¬ j.size = 0 := fun e => by rw [e] at hb; cases hb
      simp [this]
  · cases h
/-- A struct of so many cells; or one cell. -/
def ldK (P : Program) (t : Nat) : Option (Option Nat) :=
  match P.underlying t with
  | some (.struct _) => (P.info? t).bind fun j => some (some j.size)
  | some ds => (P.info? t).bind fun j => cond (!ds.isRow && Nat.beq j.size 1) (some none) none
  | none => none
def vof : Option Nat → List Value → Value
  | some _, cs => .agg cs.toArray
  | none, cs => cs.headD undef
theorem ldK_load {P : Program} {t : Nat} {z : Option Nat} {W : World} {b o : Nat} {cs : List Value} (h : ldK P t = some z) (hr : W.rangeAt b o cs) (hl : cs.length = z.getD 1) :
    (Instr.loadAt t (.pointer (some ⟨b, o, none⟩))).run P W = .ok (vof z cs) W := by
  unfold ldK at h
  split at h
  · next fs hu =>
    obtain ⟨j, hj, h⟩ := Option.bind_eq_some_iff.1 h
    simp only [Option.some.injEq] at h
    subst h
    rw [run_loadAt_mid W b o t cs _ hr hu rfl (by rw [hj, hl]; rfl)]
    rfl
  · next ds hns hu =>
    obtain ⟨j, hj, h⟩ := Option.bind_eq_some_iff.1 h
    cases hb : (!ds.isRow && Nat.beq j.size 1) with
    | false => rw [hb] at h; cases h
    | true =>
      rw [hb] at h
      simp only [cond_true, Option.some.injEq] at h
      subst h
      simp only [Bool.and_eq_true, Bool.not_eq_true'] at hb
      obtain ⟨v, rfl⟩ : ∃ v, cs = [v] := by
        match cs, hl with
        | [v], _ => exact ⟨v, rfl⟩
        | [], h => simp at h
        | _ :: _ :: _, h => simp at h
      have hc := hr 0 v rfl
      have hagg : (isAgg t).run P W = .ok false W := by
        unfold isAgg
        rw [Sem.run_bind, run_underlying hu W]
        have hd' : ds.isRow = false := hb.1
        cases ds <;> simp_all [TypeDesc.isRow]
      simp only [Nat.add_zero] at hc
      simp [Instr.loadAt, Instr.sureAddr, Sem.run_bind, loadVar, hagg, hc, vof]
  · cases h
def elK (P : Program) (t : Nat) : Option Nat :=
  match P.underlying t with
  | some (.slice e) => (P.info? e).bind fun j => some j.size
  | _ => none
def isSl (P : Program) (t : Nat) : Bool :=
  match P.underlying t with
  | some (.slice _) => true
  | _ => false
def isBl (P : Program) (t : Nat) : Bool :=
  match P.underlying t with
  | some .bool => true
  | _ => false
def Lis (v : Value) (N : Nat) : Prop := ∃ ao cap, v = .slice ao N cap
/-- What is told ahead of an operation. -/
inductive Hn (P : Program) (w0 Ws : World) (rs : List Res) : Type where
  | m (b o : Nat) (cs : List Value) (h : ∀ W, St w0 W rs → Below Ws.heap.size Ws W → W.rangeAt b o cs) (i : Nat)
  | w (b o : Nat) (cs : List Value) (h : ∀ W, St w0 W rs → Below Ws.heap.size Ws W → W.rangeAt b o cs) (z : Nat) (hl : cs.length = z)
  | x (v : Value) (k i b o : Nat) (h : PA v k i b o) (e : Int) (he : e = i)
  | l (v : Value) (N : Nat) (h : Lis v N)
  | ad (x y : Int) (h : I64 (x + y))
  | sb (x y : Int) (h : I64 (x - y))
  | ml (x y : Int) (h : I64 (x * y))
  | q (x y : Int) (h : (0 ≤ x ∧ x ≤ 9223372036854775807) ∧ 0 < y)
  | k (e r : Bool) (h : e = r)
  | o
  | c (F : FuncId) (fn : Func) (hf : P.funcs[F]? = some fn) (ho : ((fn.name == "runtime.NumGoroutine") || fn.body.isNone) = false) (args : List Value) (v : Value) (h : ∀ W, St w0 W rs → Below Ws.heap.size Ws W → Calls P F args.toArray W fun e W' => e = .returned v ∧ St W W' [])
abbrev R1 (P : Program) (w0 Ws : World) (rs : List Res) := Option (Value × (List Value × List Value) × List (Hn P w0 Ws rs))
section
variable {P : Program} {w0 Ws : World} {rs : List Res}
def r0 (v : Value) (hs : List (Hn P w0 Ws rs)) : R1 P w0 Ws rs := some (v, ([], []), hs)
def kb (e : Bool) : List (Hn P w0 Ws rs) → R1 P w0 Ws rs
  | .k e' r _ :: hs => some (.bool r, ([.bool e], [.bool e']), hs)
  | .o :: hs => some (.bool e, ([], []), hs)
  | _ => none
def cmpI (a c : Int) : BinOp → Option Bool
  | .eql => some (decide (a = c))
  | .neq => some (!decide (a = c))
  | .lss => some (decide (a < c))
  | .leq => some (decide (a ≤ c))
  | .gtr => some (decide (c < a))
  | .geq => some (decide (c ≤ a))
  | _ => none
def cmp (P : Program) (t : Nat) (b : BinOp) : Value → Value → Option Bool
  | .int .i64 a, .int .i64 c => cmpI a c b
  | .string a, .string c => match b with
    | .eql => some (decide (a = c))
    | .neq => some (!decide (a = c))
    | _ => none
  | .bool a, .bool c => match b with
    | .eql => cond (isBl P t) (some (a == c)) none
    | _ => none
  | _, _ => none
def arith (vx vy : Value) : BinOp → List (Hn P w0 Ws rs) → R1 P w0 Ws rs
  | .add, .ad x y _ :: hs => some (I (x + y), ([vx, vy], [I x, I y]), hs)
  | .sub, .sb x y _ :: hs => some (I (x - y), ([vx, vy], [I x, I y]), hs)
  | .mul, .ml x y _ :: hs => some (I (x * y), ([vx, vy], [I x, I y]), hs)
  | .quo, .q x y _ :: hs => some (I (x / y), ([vx, vy], [I x, I y]), hs)
  | .rem, .q x y _ :: hs => some (I (x % y), ([vx, vy], [I x, I y]), hs)
  | _, _ => none
def isAr : BinOp → Bool
  | .add | .sub | .mul | .quo | .rem => true
  | _ => false
def bop (b : BinOp) (t : Nat) (vx vy : Value) (hs : List (Hn P w0 Ws rs)) : R1 P w0 Ws rs :=
  cond (isAr b) (arith vx vy b hs) ((cmp P t b vx vy).bind fun e => kb e hs)
def ldO (t : Nat) (p : Value) : List (Hn P w0 Ws rs) → R1 P w0 Ws rs
  | .m b o cs _ i :: hs => (ldK P t).bind fun z => match z with
    | none => (cs[i]?).bind fun v => some (v, ([p], [.pointer (some ⟨b, o + i, none⟩)]), hs)
    | some z => cond (Nat.beq ((cs.drop i).take z).length z) (some (.agg ((cs.drop i).take z).toArray, ([p], [.pointer (some ⟨b, o + i, none⟩)]), hs)) none
  | .w b o cs _ z _ :: hs => (ldK P t).bind fun z' => match z' with
    | none => none
    | some z' => cond (Nat.beq z z') (some (.agg cs.toArray, ([p], [.pointer (some ⟨b, o, none⟩)]), hs)) none
  | _ => none
def ixO (t : Nat) (vx vy : Value) : List (Hn P w0 Ws rs) → R1 P w0 Ws rs
  | .x v k _ b o _ e _ :: hs => (elK P t).bind fun k' => cond (Nat.beq k k') (some (.pointer (some ⟨b, o, none⟩), ([vx, vy], [v, I e]), hs)) none
  | _ => none
def lnO (t : Nat) (vx : Value) : List (Hn P w0 Ws rs) → R1 P w0 Ws rs
  | .l v N _ :: hs => cond (isSl P t) (some (I N, ([vx], [v]), hs)) none
  | _ => none
def biO (b : Builtin) (vs : List Value) (ts : List Nat) (hs : List (Hn P w0 Ws rs)) : R1 P w0 Ws rs :=
  match b, vs, ts with
  | .len, [vx], [t] => lnO t vx hs
  | .min, [.int .i64 a, .int .i64 c], _ => r0 (I (min a c)) hs
  | _, _, _ => none
def lks (lk : Operand → Option Value) : List Operand → Option (List Value)
  | [] => some []
  | x :: xs => (lk x).bind fun v => (lks lk xs).bind fun vs => some (v :: vs)
def op1 (lk : Operand → Option Value) (o : Op) (hs : List (Hn P w0 Ws rs)) : R1 P w0 Ws rs :=
  match o with
  | .move x => (lk x).bind fun v => r0 v hs
  | .assign x => (lk x).bind fun v => r0 v hs
  | .pick c a b => (lk c).bind fun vc => match vc with
    | .bool true => (lk a).bind fun v => r0 v hs
    | .bool false => (lk b).bind fun v => r0 v hs
    | _ => none
  | .nilCheck x => (lk x).bind fun v => match v with
    | .pointer (some a) => r0 (.pointer (some a)) hs
    | _ => none
  | .fieldAddr t x i => (lk x).bind fun v => match v with
    | .pointer (some ⟨b, o, none⟩) => (fOff P t i).bind fun off => r0 (.pointer (some ⟨b, o + off, none⟩)) hs
    | _ => none
  | .load t x => (lk x).bind fun p => ldO t p hs
  | .indexAddr t x y => (lk x).bind fun vx => (lk y).bind fun vy => ixO t vx vy hs
  | .binOp b t x y _ => (lk x).bind fun vx => (lk y).bind fun vy => bop b t vx vy hs
  | .unOp .not _ x => (lk x).bind fun v => match v with
    | .bool b => kb (!b) hs
    | _ => none
  | .extract x i => (lk x).bind fun v => match v with
    | .tuple vs => (vs[i]?).bind fun u => r0 u hs
    | _ => none
  | .call ⟨.builtin b, xs, ts⟩ => (lks lk xs.toList).bind fun vs => biO b vs ts.toList hs
  | _ => none
end
section
variable {P : Program} {n : Nat} {f : Nat → Value} {W w0 Ws : World} {rs : List Res} {Q : Exit → Act → World → Prop} {K : Value → World → Prop}
  {d : Option Tmp} {ty : TypeId} {pos : String} {af : Array Go.Edge} {g : Option (Nat × Bool)} {hs hs' : List (Hn P w0 Ws rs)} {v : Value} {L R : List Value} {lk : Operand → Option Value}
theorem r0_ok {u : Value} (h : r0 u hs = some (v, (L, R), hs')) : u = v := by
  simp only [r0, Option.some.injEq, Prod.mk.injEq] at h; exact h.1
theorem kb_ok {e : Bool} (h : kb e hs = some (v, (L, R), hs')) (hl : L = R) : v = .bool e := by
  unfold kb at h
  split at h
  · next e' r hk hs2 =>
    simp only [Option.some.injEq, Prod.mk.injEq] at h
    obtain ⟨rfl, ⟨rfl, rfl⟩, _⟩ := h
    simp only [List.cons.injEq, Value.bool.injEq, and_true] at hl
    rw [hl, hk]
  · simp only [Option.some.injEq, Prod.mk.injEq] at h
    exact h.1.symm
  · cases h
theorem cmpI_ok {a c : Int} {b : BinOp} {t t' : TypeId} {x y : Operand} {e : Bool} (h : cmpI a c b = some e) (hx : ev n f x = I a) (hy : ev n f y = I c) (k : K (.bool e) W) : Stp P n ⟨d, .binOp b t x y t', ty, pos, af, g⟩ f W Q K := by
  unfold cmpI at h
  split at h <;> first | cases h | (simp only [Option.some.injEq] at h; subst h)
  · exact stp_eql hx hy k
  · exact stp_neq hx hy k
  · exact stp_lss hx hy k
  · exact stp_leq hx hy k
  · exact stp_gtr hx hy k
  · exact stp_geq hx hy k
theorem cmp_ok {vx vy : Value} {b : BinOp} {t t' : TypeId} {x y : Operand} {e : Bool} (h : cmp P t b vx vy = some e) (hx : ev n f x = vx) (hy : ev n f y = vy) (k : K (.bool e) W) : Stp P n ⟨d, .binOp b t x y t', ty, pos, af, g⟩ f W Q K := by
  unfold cmp at h
  split at h
  · exact cmpI_ok h hx hy k
  · split at h <;> first | cases h | (simp only [Option.some.injEq] at h; subst h)
    · exact stp_seql hx hy k
    · exact stp_sneq hx hy k
  · split at h
    · cases hb : isBl P t with
      | false => rw [hb] at h; cases h
      | true =>
        rw [hb] at h
        simp only [cond_true, Option.some.injEq] at h
        subst h
        have hu : P.underlying t = some .bool := by
          unfold isBl at hb
          split at hb
          · next hu => exact hu
          · cases hb
        exact stp_beql hu hx hy k
    · cases h
  · cases h
theorem arith_ok {vx vy : Value} {b : BinOp} {t t' : TypeId} {x y : Operand} (h : arith vx vy b hs = some (v, (L, R), hs')) (hl : L = R) (hx : ev n f x = vx) (hy : ev n f y = vy) (k : K v W) : Stp P n ⟨d, .binOp b t x y t', ty, pos, af, g⟩ f W Q K := by
  unfold arith at h
  split at h <;> first | cases h; done | skip
  all_goals
    simp only [Option.some.injEq, Prod.mk.injEq] at h
    obtain ⟨rfl, ⟨rfl, rfl⟩, _⟩ := h
    simp only [List.cons.injEq, and_true] at hl
    obtain ⟨rfl, rfl⟩ := hl
  · exact stp_add hx hy (by assumption) k
  · exact stp_sub hx hy (by assumption) k
  · exact stp_mul hx hy (by assumption) k
  · have hi := ‹(_ ∧ _) ∧ _›
    exact stp_quo hx hy hi.1 hi.2 k
  · have hi := ‹(_ ∧ _) ∧ _›
    exact stp_rem hx hy hi.1 hi.2 k
theorem bop_ok {vx vy : Value} {b : BinOp} {t t' : TypeId} {x y : Operand} (h : bop b t vx vy hs = some (v, (L, R), hs')) (hl : L = R) (hx : ev n f x = vx) (hy : ev n f y = vy) (k : K v W) : Stp P n ⟨d, .binOp b t x y t', ty, pos, af, g⟩ f W Q K := by
  unfold bop at h
  cases hb : isAr b with
  | true => rw [hb] at h; exact arith_ok h hl hx hy k
  | false =>
    rw [hb] at h
    obtain ⟨e, he, h⟩ := Option.bind_eq_some_iff.1 h
    rw [kb_ok h hl] at k
    exact cmp_ok he hx hy k
theorem stp_loadK {x : Operand} {t : TypeId} {z : Option Nat} {b o : Nat} {cs : List Value} (hz : ldK P t = some z) (hx : ev n f x = .pointer (some ⟨b, o, none⟩)) (hr : W.rangeAt b o cs) (hl : cs.length = z.getD 1) (k : K (vof z cs) W) : Stp P n ⟨d, .load t x, ty, pos, af, g⟩ f W Q K :=
  Stp.run (v := vof z cs) (by simp [execOp, hx, ldK_load hz hr hl, Sem.run_bind]) k
theorem range_part {b o i z : Nat} {cs : List Value} (hr : W.rangeAt b o cs) : W.rangeAt b (o + i) ((cs.drop i).take z) := by
  intro j u hj
  have hjl := (List.getElem?_eq_some_iff.1 hj).1
  rw [List.getElem?_take] at hj
  split at hj
  · rw [List.getElem?_drop] at hj
    rw [Nat.add_assoc]
    exact hr (i + j) u hj
  · cases hj
theorem ldO_ok {x : Operand} {t : TypeId} {p : Value} (h1 : St w0 W rs) (h2 : Below Ws.heap.size Ws W) (h : ldO t p hs = some (v, (L, R), hs')) (hl : L = R) (hx : ev n f x = p) (k : K v W) : Stp P n ⟨d, .load t x, ty, pos, af, g⟩ f W Q K := by
  unfold ldO at h
  split at h
  · next b o cs hr i hs2 =>
    obtain ⟨z, hz, h⟩ := Option.bind_eq_some_iff.1 h
    split at h
    · obtain ⟨u, hu, h⟩ := Option.bind_eq_some_iff.1 h
      simp only [Option.some.injEq, Prod.mk.injEq] at h
      obtain ⟨rfl, ⟨rfl, rfl⟩, _⟩ := h
      simp only [List.cons.injEq, and_true] at hl
      subst hl
      refine stp_loadK (cs := [u]) hz hx ?_ rfl k
      intro j w hj
      cases j with
      | zero => simp at hj; subst hj; exact hr W h1 h2 i u hu
      | succ j => simp at hj
    · next z' =>
      cases hb : Nat.beq ((cs.drop i).take z').length z' with
      | false => rw [hb] at h; cases h
      | true =>
        rw [hb] at h
        simp only [cond_true, Option.some.injEq, Prod.mk.injEq] at h
        obtain ⟨rfl, ⟨rfl, rfl⟩, _⟩ := h
        simp only [List.cons.injEq, and_true] at hl
        subst hl
        exact stp_loadK hz hx (range_part (hr W h1 h2)) (Nat.eq_of_beq_eq_true hb) k
  · next b o cs hr z hlz hs2 =>
    obtain ⟨z', hz, h⟩ := Option.bind_eq_some_iff.1 h
    split at h
    · cases h
    · next z2 =>
      cases hb : Nat.beq z z2 with
      | false => rw [hb] at h; cases h
      | true =>
        rw [hb] at h
        simp only [cond_true, Option.some.injEq, Prod.mk.injEq] at h
        obtain ⟨rfl, ⟨rfl, rfl⟩, _⟩ := h
        simp only [List.cons.injEq, and_true] at hl
        subst hl
        exact stp_loadK hz hx (hr W h1 h2) (by rw [hlz, Nat.eq_of_beq_eq_true hb]; rfl) k
  · cases h
theorem ixO_ok {x y : Operand} {t : TypeId} {vx vy : Value} (h : ixO t vx vy hs = some (v, (L, R), hs')) (hl : L = R) (hx : ev n f x = vx) (hy : ev n f y = vy) (k : K v W) : Stp P n ⟨d, .indexAddr t x y, ty, pos, af, g⟩ f W Q K := by
  unfold ixO at h
  split at h
  · next u kk i b o hp e he hs2 =>
    obtain ⟨k', hk', h⟩ := Option.bind_eq_some_iff.1 h
    cases hb : Nat.beq kk k' with
    | false => rw [hb] at h; cases h
    | true =>
      rw [hb] at h
      simp only [cond_true, Option.some.injEq, Prod.mk.injEq] at h
      obtain ⟨rfl, ⟨rfl, rfl⟩, _⟩ := h
      simp only [List.cons.injEq, and_true] at hl
      obtain ⟨rfl, rfl⟩ := hl
      have := Nat.eq_of_beq_eq_true hb
      subst this
      unfold elK at hk'
      split at hk'
      · next te hu =>
        obtain ⟨j, hj, hk'⟩ := Option.bind_eq_some_iff.1 hk'
        simp only [Option.some.injEq] at hk'
        obtain ⟨off, len, cap, rfl, hi, rfl⟩ := hp
        subst he
        refine Stp.run (v := .pointer (some ⟨b, off + i * kk, none⟩)) ?_ k
        have hel : P.elem t = te := by simp [Program.elem, hu]
        have hu2 : P.underlying t = some (.slice (P.elem t)) := by rw [hel]; exact hu
        have hlt : (i : Int) < len := by omega
        simp [execOp, hx, hy, Sem.run_bind, run_indexAt_slice (h := hu2), hel, hlt, sizeOf, typeInfo, hj, hk', Addr.add]
      · cases hk'
  · cases h
theorem lnO_ok {x : Operand} {t : TypeId} {vx : Value} (h : lnO t vx hs = some (v, (L, R), hs')) (hl : L = R) (hx : ev n f x = vx) (k : K v W) : Stp P n ⟨d, .call { callee := .builtin .len, args := #[x], argTypes := #[t] }, ty, pos, af, g⟩ f W Q K := by
  unfold lnO at h
  split at h
  · next u N hu hs2 =>
    cases hb : isSl P t with
    | false => rw [hb] at h; cases h
    | true =>
      rw [hb] at h
      simp only [cond_true, Option.some.injEq, Prod.mk.injEq] at h
      obtain ⟨rfl, ⟨rfl, rfl⟩, _⟩ := h
      simp only [List.cons.injEq, and_true] at hl
      subst hl
      obtain ⟨ao, cap, rfl⟩ := hu
      unfold isSl at hb
      split at hb
      · next te ht =>
        refine Stp.run (v := I N) ?_ k
        have he : P.elem t = te := by simp [Program.elem, ht]
        have hu2 : P.underlying t = some (.slice (P.elem t)) := by rw [he]; exact ht
        simp [execOp, hx, resolve, invoke, builtin, Sem.run_bind, run_len_slice (h := hu2), goInt]
      · cases hb
  · cases h
theorem lks_ok (hl : ∀ x v, lk x = some v → ev n f x = v) : ∀ {xs : List Operand} {vs : List Value}, lks lk xs = some vs → xs.map (ev n f) = vs
  | [], vs, h => by simp only [lks, Option.some.injEq] at h; subst h; rfl
  | x :: xs, vs, h => by
    simp only [lks] at h
    obtain ⟨v, hv, h⟩ := Option.bind_eq_some_iff.1 h
    obtain ⟨us, hu, h⟩ := Option.bind_eq_some_iff.1 h
    simp only [Option.some.injEq] at h
    subst h
    rw [List.map_cons, hl x v hv, lks_ok hl hu]
theorem op1_ok (hl : ∀ x v, lk x = some v → ev n f x = v) (h1 : St w0 W rs) (h2 : Below Ws.heap.size Ws W) {o : Op} (h : op1 lk o hs = some (v, (L, R), hs')) (e : L = R) (k : K v W) : Stp P n ⟨d, o, ty, pos, af, g⟩ f W Q K := by
  unfold op1 at h
  split at h
  · obtain ⟨u, hu, h⟩ := Option.bind_eq_some_iff.1 h
    exact stp_move (hl _ _ hu) (by rw [r0_ok h]; exact k)
  · obtain ⟨u, hu, h⟩ := Option.bind_eq_some_iff.1 h
    exact stp_assign (hl _ _ hu) (by rw [r0_ok h]; exact k)
  · obtain ⟨u, hu, h⟩ := Option.bind_eq_some_iff.1 h
    split at h
    · obtain ⟨u2, hu2, h⟩ := Option.bind_eq_some_iff.1 h
      exact stp_pick_t (hl _ _ hu) (hl _ _ hu2) (by rw [r0_ok h]; exact k)
    · obtain ⟨u2, hu2, h⟩ := Option.bind_eq_some_iff.1 h
      exact stp_pick_f (hl _ _ hu) (hl _ _ hu2) (by rw [r0_ok h]; exact k)
    · cases h
  · obtain ⟨u, hu, h⟩ := Option.bind_eq_some_iff.1 h
    split at h
    · exact stp_nilCheck (hl _ _ hu) (by rw [r0_ok h]; exact k)
    · cases h
  · obtain ⟨u, hu, h⟩ := Option.bind_eq_some_iff.1 h
    split at h
    · obtain ⟨off, ho, h⟩ := Option.bind_eq_some_iff.1 h
      exact stp_fieldAddr (fOff_ok ho) (hl _ _ hu) (by rw [r0_ok h]; exact k)
    · cases h
  · obtain ⟨u, hu, h⟩ := Option.bind_eq_some_iff.1 h
    exact ldO_ok h1 h2 h e (hl _ _ hu) k
  · obtain ⟨u, hu, h⟩ := Option.bind_eq_some_iff.1 h
    obtain ⟨u2, hu2, h⟩ := Option.bind_eq_some_iff.1 h
    exact ixO_ok h e (hl _ _ hu) (hl _ _ hu2) k
  · obtain ⟨u, hu, h⟩ := Option.bind_eq_some_iff.1 h
    obtain ⟨u2, hu2, h⟩ := Option.bind_eq_some_iff.1 h
    exact bop_ok h e (hl _ _ hu) (hl _ _ hu2) k
  · obtain ⟨u, hu, h⟩ := Option.bind_eq_some_iff.1 h
    split at h
    · rw [kb_ok h e] at k
      exact stp_not (hl _ _ hu) k
    · cases h
  · obtain ⟨u, hu, h⟩ := Option.bind_eq_some_iff.1 h
    split at h
    · obtain ⟨u2, hu2, h⟩ := Option.bind_eq_some_iff.1 h
      exact stp_extract (hl _ _ hu) hu2 (by rw [r0_ok h]; exact k)
    · cases h
  · next b xs ts =>
    obtain ⟨vs, hvs, hz⟩ := Option.bind_eq_some_iff.1 h
    clear h
    have hm := lks_ok hl hvs
    unfold biO at hz
    split at hz
    · next vx t hts =>
      obtain ⟨x, hx⟩ : ∃ x, xs = #[x] ∧ ev n f x = vx := by
        match hq : xs.toList, hm with
        | [x], hm => exact ⟨x, by rw [← Array.toArray_toList (xs := xs), hq], by simpa using hm⟩
        | [], hm => simp at hm
        | _ :: _ :: _, hm => simp at hm
      obtain ⟨rfl, hx⟩ := hx
      have : ts = #[t] := by rw [← Array.toArray_toList (xs := ts), hts]
      subst this
      exact lnO_ok hz e hx k
    · next _ a c =>
      obtain ⟨x, y, rfl, hx, hy⟩ : ∃ x y, xs = #[x, y] ∧ ev n f x = I a ∧ ev n f y = I c := by
        match hq : xs.toList, hm with
        | [x, y], hm => exact ⟨x, y, by rw [← Array.toArray_toList (xs := xs), hq], by simpa using hm⟩
        | [], hm => simp at hm
        | [_], hm => simp at hm
        | _ :: _ :: _ :: _, hm => simp at hm
      exact stp_min hx hy (by rw [r0_ok hz]; exact k)
    · cases hz
  · cases h
end
end Go.Proofs.YtchnllpegfbleaaDoor

/-
  A region that draws its order: whatever holds at its beginning, and is kept by each operation when those are done for which it waits, holds at its end.
-/
namespace Go.Proofs.YtchnllpegfbleaaDoor
set_option linter.unusedSimpArgs false
set_option linter.unusedVariables false
open Go.RowKit
/-- Is an operation carried out, as the frame stands? -/
def onR (l : List Oper) (f : Nat → Value) (o : Oper) : Bool :=
  match o.guard with
  | none => true
  | some (j, w) => match dstOf l j with
    | some d => yl (f d) == some w
    | none => false
def setD (D : Nat → Bool) (i : Nat) : Nat → Bool := fun j => cond (Nat.beq j i) true (D j)
section
variable {P : Program} {n : Nat} {Q : Exit → Act → World → Prop}
structure KeepI (P : Program) (n : Nat) (Q : Exit → Act → World → Prop) (l : List Oper) (I : (Nat → Bool) → (Nat → Value) → World → Prop) : Prop where
  step : ∀ i o D f W, l[i]? = some o → D i = false → (∀ j, dep l i j = true → D j = true) → (∀ j k, D j = true → dep l j k = true → D k = true) → I D f W →
    cond (onR l f o) (Stp P n o f W Q (fun v W' => I (setD D i) (putF f o.dst v) W')) (I (setD D i) (putF f o.dst undef) W)
structure FlagI (l : List Oper) (m : Nat) (I : (Nat → Bool) → (Nat → Value) → World → Prop) (L : Array Bool) (f : Nat → Value) (W : World) : Prop where
  size : L.size = l.length + m
  tail : ∀ i, l.length ≤ i → i < L.size → L[i]? = some false
  down : ∀ i j, L[i]? = some true → dep l i j = true → L[j]? = some true
  inv : I (fun i => L.getD i false) f W
theorem any_mainI {I : (Nat → Bool) → (Nat → Value) → World → Prop} {l tl : List Oper} (ho : OrdOk n l) (hs : KeepI P n Q l I)
    (ht : ∀ i o, l.length ≤ i → (l ++ tl)[i]? = some o → (∃ j, l.length ≤ j ∧ dep (l ++ tl) i j = true) ∨ ∀ j, j < l.length → dep (l ++ tl) i j = true ∨ ∃ m, j < m ∧ m < l.length ∧ dep l m j = true)
    (fin : ∀ fuel L f W, tl.length ≤ fuel → (∀ i, i < l.length → L[i]? = some true) → FlagI l tl.length I L f W → wpAny P .any (l ++ tl).toArray Q fuel L (act n f) W) :
    ∀ fuel L f W, FlagI l tl.length I L f W → (L.toList.countP (fun b => !b)) ≤ fuel → wpAny P .any (l ++ tl).toArray Q fuel L (act n f) W := by
  intro fuel
  induction fuel with
  | zero =>
    intro L f W hI hc
    have hall : ∀ i, i < L.size → L[i]? = some true := by
      intro i hi
      have h0 : L.toList.countP (fun b => !b) = 0 := by omega
      rw [List.countP_eq_zero] at h0
      have := h0 L[i] (by simp)
      rw [Array.getElem?_eq_getElem hi]
      simpa using this
    have htl : tl.length = 0 := by
      by_cases h : tl.length = 0
      · exact h
      · have h1 := hI.tail l.length (Nat.le_refl _) (by rw [hI.size]; omega)
        have h2 := hall l.length (by rw [hI.size]; omega)
        rw [h1] at h2; cases h2
    exact fin 0 L f W (by omega) (fun i hi => hall i (by rw [hI.size]; omega)) hI
  | succ fuel ih =>
    intro L f W hI hc
    by_cases hall : ∀ i, i < l.length → L[i]? = some true
    · refine fin (fuel + 1) L f W ?_ hall hI
      have : tl.length ≤ L.toList.countP (fun b => !b) := by
        have e : L.toList = L.toList.take l.length ++ L.toList.drop l.length := (List.take_append_drop _ _).symm
        rw [e, List.countP_append]
        have : (L.toList.drop l.length).countP (fun b => !b) = (L.toList.drop l.length).length := by
          rw [List.countP_eq_length]
          intro b hb
          obtain ⟨j, hj⟩ := List.mem_iff_getElem?.1 hb
          rw [List.getElem?_drop, Array.getElem?_toList] at hj
          have hlt : l.length + j < L.size := (Array.getElem?_eq_some_iff.1 hj).1
          rw [hI.tail _ (by omega) hlt] at hj
          cases hj; rfl
        rw [this, List.length_drop]
        have h3 := hI.size
        have h4 : L.toList.length = L.size := Array.length_toList
        omega
      omega
    · have hex : ∃ i, i < l.length ∧ L[i]? = some false := by
        apply Classical.byContradiction
        intro hn
        apply hall
        intro i hi
        cases h : L[i]? with
        | none => rw [Array.getElem?_eq_none_iff, hI.size] at h; omega
        | some b =>
          cases b
          · exact absurd ⟨i, hi, h⟩ hn
          · rfl
      obtain ⟨i0, ⟨hi0, hf0⟩, hmin⟩ := least hex
      have hlen : (l ++ tl).length = l.length + tl.length := List.length_append
      have hready : i0 ∈ Region.ready .any (l ++ tl).toArray L := by
        unfold Region.ready
        rw [List.mem_filter]
        obtain ⟨o, hoo⟩ : ∃ o, l[i0]? = some o := ⟨_, List.getElem?_eq_getElem hi0⟩
        have hoo' : (l ++ tl)[i0]? = some o := by rw [List.getElem?_append_left hi0]; exact hoo
        refine ⟨by rw [List.mem_range, List.size_toArray, hlen]; omega, ?_⟩
        rw [Array.getD_eq_getD_getElem?, hf0]
        simp only [Option.getD_some, Bool.not_false, Bool.true_and, List.getElem?_toArray, hoo', Option.map_some]
        rw [Array.all_eq_true_iff_forall_mem]
        intro e he
        by_cases hb : Region.binds .any e = true
        · have hd := dep_of hoo he hb
          have hj := ho.lt i0 e.on hi0 hd
          have : L[e.on]? = some true := by
            cases h : L[e.on]? with
            | none => rw [Array.getElem?_eq_none_iff, hI.size] at h; omega
            | some b =>
              cases b
              · have := hmin e.on ⟨by omega, h⟩; omega
              · rfl
          rw [getD_t.2 this]; simp
        · simp only [Bool.not_eq_true] at hb
          rw [hb]; rfl
      refine ⟨fun h => (by rw [h] at hready; cases hready), ?_⟩
      intro i hi
      unfold Region.ready at hi
      rw [List.mem_filter, List.mem_range, List.size_toArray, hlen] at hi
      obtain ⟨hilt, hi⟩ := hi
      obtain ⟨o, hoo⟩ : ∃ o, (l ++ tl)[i]? = some o := ⟨_, List.getElem?_eq_getElem (by rw [hlen]; exact hilt)⟩
      simp only [List.getElem?_toArray, hoo, Option.map_some, Option.getD_some, Bool.and_eq_true, Bool.not_eq_true'] at hi
      obtain ⟨hun, hdep⟩ := hi
      have hun' : L[i]? = some false := by
        rw [Array.getD_eq_getD_getElem?] at hun
        cases h : L[i]? with
        | none => rw [Array.getElem?_eq_none_iff, hI.size] at h; omega
        | some b => rw [h] at hun; simp at hun; rw [hun]
      rw [Array.all_eq_true_iff_forall_mem] at hdep
      have hdep' : ∀ e ∈ o.after, Region.binds .any e = true → L[e.on]? = some true := by
        intro e he hb
        have := hdep e he
        rw [hb] at this
        exact getD_t.1 (by simpa using this)
      have hiN : i < l.length := by
        by_cases h : i < l.length
        · exact h
        · exfalso
          rcases ht i o (by omega) hoo with ⟨j, hj, hd⟩ | hcov
          · obtain ⟨e, he, heq, hb⟩ := of_dep hoo hd
            have h1 := hdep' e he hb
            rw [heq] at h1
            rw [hI.tail j hj (Array.getElem?_eq_some_iff.1 h1).1] at h1
            cases h1
          · have key : ∀ m j, l.length - j = m → j < l.length → L[j]? = some true := by
              intro m
              induction m using Nat.strongRecOn with
              | _ m ihm =>
                intro j hm hj
                rcases hcov j hj with hd | ⟨m', h1, h2, h3⟩
                · obtain ⟨e, he, heq, hb⟩ := of_dep hoo hd
                  rw [← heq]; exact hdep' e he hb
                · exact hI.down m' j (ihm (l.length - m') (by omega) m' rfl h2) h3
            have := key _ i0 rfl hi0
            rw [hf0] at this
            cases this
      have hol : l[i]? = some o := by rw [List.getElem?_append_left hiN] at hoo; exact hoo
      have hdl : ∀ j, dep l i j = true → L[j]? = some true := by
        intro j hj
        obtain ⟨e, he, heq, hb⟩ := of_dep hol hj
        rw [← heq]; exact hdep' e he hb
      have hsz : i < L.size := (Array.getElem?_eq_some_iff.1 hun').1
      have hother : ∀ j, j ≠ i → (L.setIfInBounds i true)[j]? = L[j]? := fun j hj => by rw [Array.getElem?_setIfInBounds, if_neg (fun e => hj e.symm)]
      have hself : (L.setIfInBounds i true)[i]? = some true := by rw [Array.getElem?_setIfInBounds]; simp [hsz]
      have hDe : (fun j => (L.setIfInBounds i true).getD j false) = setD (fun j => L.getD j false) i := by
        funext j
        unfold setD
        cases hb : Nat.beq j i with
        | true => rw [Nat.eq_of_beq_eq_true hb]; exact getD_t.2 hself
        | false => simp only [cond_false]; rw [Array.getD_eq_getD_getElem?, Array.getD_eq_getD_getElem?, hother j (fun e => by rw [e, beq_self] at hb; cases hb)]
      have next : ∀ v W', I (setD (fun j => L.getD j false) i) (putF f o.dst v) W' → wpAny P .any (l ++ tl).toArray Q fuel (L.setIfInBounds i true) (act n (putF f o.dst v)) W' := by
        intro v W' hv
        refine ih _ _ _ ⟨by simpa using hI.size, ?_, ?_, by rw [hDe]; exact hv⟩ ?_
        · intro j hj hjs
          rw [hother j (by omega)]
          exact hI.tail j hj (by simpa using hjs)
        · intro j k hl hd
          by_cases e : j = i
          · subst e
            have hk := hdl k hd
            by_cases e2 : k = j
            · subst e2; exact hself
            · rw [hother k e2]; exact hk
          · rw [hother j e] at hl
            have hk := hI.down j k hl hd
            by_cases e2 : k = i
            · subst e2; exact hself
            · rw [hother k e2]; exact hk
        · have hcount : (L.setIfInBounds i true).toList.countP (fun b => !b) + 1 = L.toList.countP (fun b => !b) := by
            rw [Array.toList_setIfInBounds]
            exact count_set _ _ (by rw [Array.getElem?_toList]; exact hun')
          omega
      unfold wpOp
      simp only [List.getElem?_toArray, hoo]
      have hw : Region.wanted o (yielded (l ++ tl).toArray (act n f).tmps) = onR l f o := by
        unfold Region.wanted onR
        cases hg : o.guard with
        | none => rfl
        | some jw =>
          obtain ⟨j, w⟩ := jw
          obtain ⟨hd, dd, hdd⟩ := ho.guard i o j w hol hg
          have hjN : j < l.length := by have := ho.lt i j hiN hd; omega
          have hdn := ho.dst j dd hjN hdd
          have : yielded (l ++ tl).toArray (act n f).tmps j = yl (f dd) := by
            unfold yielded
            have e1 : (((l ++ tl).toArray[j]?).bind (·.dst)) = some dd := by
              rw [List.getElem?_toArray, List.getElem?_append_left hjN]; exact hdd
            rw [e1]
            simp only [Option.bind_some]
            have e2 : (act n f).tmps[dd]? = some (f dd) := by simp [act, hdn]
            rw [e2]
            cases f dd <;> rfl
          simp only [this, hdd]
      rw [hw]
      have h1 := hs.step i o (fun j => L.getD j false) f W hol (by rw [Array.getD_eq_getD_getElem?, hun']; rfl) (fun j hj => getD_t.2 (hdl j hj)) (fun j k hj hk => getD_t.2 (hI.down j k (getD_t.1 hj) hk)) hI.inv
      cases hon : onR l f o with
      | true =>
        rw [hon] at h1
        simp only [cond_true] at h1
        simp only [if_true]
        exact .inl (Oper.wp_mono (fun a' w' ⟨v, e, hv⟩ => by rw [e]; exact next v w' hv) h1.out)
      | false =>
        rw [hon] at h1
        simp only [cond_false] at h1
        simp only [Bool.false_eq_true, if_false]
        rw [act_put]
        exact next undef W h1
theorem inv_startI {I : (Nat → Bool) → (Nat → Value) → World → Prop} {l : List Oper} {m : Nat} {f0 : Nat → Value} {W : World} (h : I (fun _ => false) f0 W) : FlagI l m I (Array.replicate (l.length + m) false) f0 W := by
  have hno : ∀ i : Nat, (Array.replicate (l.length + m) false)[i]? ≠ some true := by
    intro i h
    rw [Array.getElem?_replicate] at h
    split at h <;> cases h
  refine ⟨by simp, ?_, fun i j h => absurd h (hno i), ?_⟩
  · intro i _ h
    rw [Array.getElem?_replicate, if_pos (by simpa using h)]
  · have : (fun i => (Array.replicate (l.length + m) false).getD i false) = fun _ => false := by
      funext i
      cases hb : (Array.replicate (l.length + m) false).getD i false with
      | false => rfl
      | true => exact absurd (getD_t.1 hb) (hno i)
    rw [this]; exact h
theorem sx_anyI {id : Nat} {l : List Oper} (k : Nat) (I : (Nat → Bool) → (Nat → Value) → World → Prop) {W : World} {f0 : Nat → Value} (hm : P.follows .mixedOrders = true) (ho : ordOk n (l.take k) = true) (hT : ((l.drop k).isEmpty || tailOk (l.take k) (l.drop k)) = true)
    (start : I (fun _ => false) f0 { W with drawn := W.drawn + 1 }) (hs : KeepI P n Q (l.take k) I)
    (fin : ∀ D f W', (∀ i, i < (l.take k).length → D i = true) → I D f W' → Wl P l.toArray Q (l.drop k) n f W') : (Code.region id l.toArray true).wp P Q (act n f0) W := by
  have e0 : l.take k ++ l.drop k = l := List.take_append_drop k l
  generalize hl1 : l.take k = l1 at *
  generalize hl2 : l.drop k = tl at *
  rw [← e0] at fin ⊢
  refine wp_region_any hm ?_
  have h := any_mainI (I := I) (tl := tl) (OrdOk.of ho) hs ?_ ?_ (l1.length + tl.length) (Array.replicate (l1.length + tl.length) false) f0 { W with drawn := W.drawn + 1 } (inv_startI start) ?_
  · simpa using h
  · rw [Bool.or_eq_true] at hT
    rcases hT with hT | hT
    · intro i o hi h
      rw [List.isEmpty_iff.1 hT, List.append_nil] at h
      have := (List.getElem?_eq_some_iff.1 h).1; omega
    · exact tail_ht hT
  · intro fuel L f W' hfuel hall hI
    have hf := fin _ f W' (fun i hi => getD_t.2 (hall i hi)) hI.inv
    rw [Bool.or_eq_true] at hT
    rcases hT with hT | hT
    · have ht0 := List.isEmpty_iff.1 hT
      subst ht0
      rw [List.append_nil] at hf ⊢
      exact any_tail0 fuel L _ W' (fun j hj => hall j hj) hf.out
    · exact any_tail hT tl.length 0 fuel L _ W' (by omega) (Nat.zero_le _) hfuel hI.size (fun j hj => hall j (by omega)) (fun j hj hjs => hI.tail j (by omega) hjs) (by simpa using hf.out)
  · have := List.countP_le_length (p := fun b => !b) (l := (Array.replicate (l1.length + tl.length) false).toList)
    simpa using this
theorem sx_anyQ {id : Nat} {l : List Oper} {w0 W : World} {rs : List Res} (k : Nat) {f0 : Nat → Value} (F : List Pl) (hm : P.follows .mixedOrders = true) (ho : ordOk n (l.take k) = true) (hT : ((l.drop k).isEmpty || tailOk (l.take k) (l.drop k)) = true)
    (hst : St w0 W rs) (hs : AllSteps P n W w0 rs Q (l.take k) F f0 0 (l.take k) F)
    (fin : ∀ f W', St w0 W' rs → Below W.heap.size W W' → (∀ i d, i < (l.take k).length → dstOf (l.take k) i = some d → (F.getD i Pl.off).p (f d) W') → (∀ t, keepAll (l.take k) t = true → f t = f0 t) → Wl P l.toArray Q (l.drop k) n f W') :
    (Code.region id l.toArray true).wp P Q (act n f0) W := by
  have hO := OrdOk.of ho
  have hb0 : Below W.heap.size W { W with drawn := W.drawn + 1 } := (Below.refl _ _).drew
  refine sx_anyI k (fun D f W' => St w0 W' rs ∧ Below W.heap.size W W' ∧ (∀ i d, i < (l.take k).length → D i = true → dstOf (l.take k) i = some d → (F.getD i Pl.off).p (f d) W') ∧ (∀ t, (∀ i, i < (l.take k).length → D i = true → dstOf (l.take k) i ≠ some t) → f t = f0 t)) hm ho hT ⟨by simpa using hst.call (St.of_below hb0), hb0, (fun _ _ _ h => by cases h), fun _ _ => rfl⟩ ⟨?_⟩ ?_
  · rintro i o D f W' hi hDi hdep hdown ⟨h1, h2, h3, h4⟩
    have hiN := (List.getElem?_eq_some_iff.1 hi).1
    obtain ⟨p, hp, hstep⟩ := hs.get i o hi
    rw [Nat.zero_add] at hstep
    have hpF : F.getD i Pl.off = p := by rw [List.getD_eq_getElem?_getD, hp]; rfl
    have hs1 := hstep f W' h1 h2 (fun j d hj hd => h3 j d (by have := hO.lt i j hiN hj; omega) (hdep j hj) hd) (fun t hk => by
      refine h4 t (fun j hjN hj hd => ?_)
      unfold keepAt at hk
      rw [List.all_eq_true] at hk
      have := hk j (by simpa using hjN)
      rw [hd] at this
      simp only [beq_self, Bool.not_true, Bool.or_false, Bool.or_eq_true] at this
      rcases this with h | h
      · rw [Nat.eq_of_beq_eq_true h, hDi] at hj; cases hj
      · have := hdown j i hj h
        rw [hDi] at this; cases this)
    have hdo : dstOf (l.take k) i = o.dst := by simp [dstOf, hi]
    have hset : ∀ j, setD D i j = true → j = i ∨ D j = true := fun j hj => by
      unfold setD at hj
      cases hb : Nat.beq j i with
      | true => exact .inl (Nat.eq_of_beq_eq_true hb)
      | false => rw [hb] at hj; exact .inr hj
    have hput : ∀ v t, o.dst ≠ some t → putF f o.dst v t = f t := fun v t ht => by
      cases hod : o.dst with
      | none => rfl
      | some d' => simp only [putF, upd]; rw [beq_f (fun e' => ht (by rw [hod, e']))]; rfl
    have next : ∀ v W2, Below W'.heap.size W' W2 → p.p v W2 → St w0 W2 rs ∧ Below W.heap.size W W2 ∧ (∀ j d, j < (l.take k).length → setD D i j = true → dstOf (l.take k) j = some d → (F.getD j Pl.off).p (putF f o.dst v d) W2) ∧ (∀ t, (∀ j, j < (l.take k).length → setD D i j = true → dstOf (l.take k) j ≠ some t) → putF f o.dst v t = f0 t) := by
      intro v W2 hb hv
      refine ⟨by simpa using h1.call (St.of_below hb), h2.trans (hb.mono h2.size), fun j d hj hl hd => ?_, fun t hk => ?_⟩
      · by_cases e : j = i
        · subst e
          rw [hpF]
          rw [hdo] at hd
          rw [hd]
          simp only [putF, upd, beq_self, cond_true]
          exact hv
        · rw [hput v d (fun hod => hO.ne j i d hj hiN e hd (by rw [hdo, hod]))]
          exact (F.getD j Pl.off).up (h3 j d hj ((hset j hl).resolve_left e) hd) hb
      · rw [hput v t (by rw [← hdo]; exact hk i hiN (by simp [setD]))]
        exact h4 t (fun j hj hl => hk j hj (by unfold setD; cases Nat.beq j i <;> simp [hl]))
    have hon : onR (l.take k) f o = onOf (l.take k) F o := by
      unfold onR onOf
      cases hg : o.guard with
      | none => rfl
      | some jw =>
        obtain ⟨j, w⟩ := jw
        obtain ⟨hd, dd, hdd⟩ := hO.guard i o j w hi hg
        have hjN : j < (l.take k).length := by have := hO.lt i j hiN hd; omega
        have hy := (F.getD j Pl.off).yld (h3 j dd hjN (hdep j hd) hdd)
        simp only [hdd, hy]
    rw [hon]
    cases honb : onOf (l.take k) F o with
    | true => rw [honb] at hs1; exact Stp.mono hs1 (fun v W2 hh => next v W2 hh.1 hh.2)
    | false => rw [honb] at hs1; exact next undef W' (Below.refl _ _) hs1
  · rintro D f W' hD ⟨h1, h2, h3, h4⟩
    exact fin f W' h1 h2 (fun i d hi hd => h3 i d hi (hD i hi) hd) (fun t ht => h4 t (fun i hi _ => keepAll_ne ht i hi))
theorem sx_anyQ0 {id : Nat} {l : List Oper} {w0 W : World} {rs : List Res} {f0 : Nat → Value} (F : List Pl) (hm : P.follows .mixedOrders = true) (ho : ordOk n l = true) (hst : St w0 W rs) (hs : AllSteps P n W w0 rs Q l F f0 0 l F)
    (fin : ∀ f W', St w0 W' rs → Below W.heap.size W W' → (∀ i d, i < l.length → dstOf l i = some d → (F.getD i Pl.off).p (f d) W') → (∀ t, keepAll l t = true → f t = f0 t) → Q .normal (act n f) W') :
    (Code.region id l.toArray true).wp P Q (act n f0) W := by
  have h := sx_anyQ (P := P) (n := n) (Q := Q) (id := id) (l := l) (f0 := f0) l.length F hm (by rw [List.take_length]; exact ho) (by rw [List.drop_length]; rfl) hst (by rw [List.take_length]; exact hs) (by rw [List.take_length, List.drop_length]; exact fun f W' a b c d => sx_nil (fin f W' a b c d))
  exact h
end
end Go.Proofs.YtchnllpegfbleaaDoor
