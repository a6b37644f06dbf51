/-
  Closed facts on the program's types: sizes, places of fields, elements of slices. (Printed by a program of this project's: wip/gentab.py.)
-/
import Derived.Test.YtchnllpegfbleaaDoorSxOwn
import Derived.Test.YtchnllpegfbleaaDoorTypes
namespace Go.Proofs.YtchnllpegfbleaaDoor
set_option linter.unusedSimpArgs false
set_option linter.unusedVariables false
set_option maxRecDepth 100000
open Go.RowKit

instance : Agg Edge := ⟨true⟩
instance : Agg Plan := ⟨true⟩
instance : Agg Entry := ⟨true⟩
instance : Agg Task := ⟨true⟩
instance : Agg Run := ⟨true⟩
instance : Agg Yard := ⟨true⟩
instance : Agg Reply := ⟨true⟩
instance : Agg Deed := ⟨true⟩
instance : Agg Note := ⟨true⟩
instance : Agg Wait := ⟨true⟩
instance : Agg File := ⟨true⟩
instance : Agg Disk := ⟨true⟩
instance : Agg Engine := ⟨true⟩
instance : Agg WorldD := ⟨true⟩
instance : Agg ActD := ⟨true⟩
instance : Agg Hand := ⟨true⟩
instance : Agg Span := ⟨true⟩
instance : Agg Crew := ⟨true⟩
instance : Agg View := ⟨true⟩
theorem mix : Tryd.prog.follows .mixedOrders = true := by kernel_rfl
theorem ld_int : TyOk Tryd.prog 3 Int := ⟨by kernel_rfl, fun _ => rfl, _, Tryd.underlying3, rfl⟩
theorem ld_bool : TyOk Tryd.prog 4 Bool := ⟨by kernel_rfl, fun _ => rfl, _, Tryd.underlying4, rfl⟩
theorem ld_string : TyOk Tryd.prog 9 ByteArray := ⟨by kernel_rfl, fun _ => rfl, _, Tryd.underlying9, rfl⟩
theorem ld_IntS : TyOk Tryd.prog 73 (List Int) := ⟨by kernel_rfl, fun _ => rfl, _, Tryd.underlying73, rfl⟩
theorem sl_IntS : SlOk Tryd.prog 73 3 Int := ⟨Tryd.underlying73, by kernel_rfl⟩
theorem ap_IntS : ApOk Tryd.prog 73 3 Int 8 := apOk Tryd.underlying73 (by kernel_rfl) (by decide)
theorem ld_StringS : TyOk Tryd.prog 63 (List ByteArray) := ⟨by kernel_rfl, fun _ => rfl, _, Tryd.underlying63, rfl⟩
theorem sl_StringS : SlOk Tryd.prog 63 9 ByteArray := ⟨Tryd.underlying63, by kernel_rfl⟩
theorem ap_StringS : ApOk Tryd.prog 63 9 ByteArray 16 := apOk Tryd.underlying63 (by kernel_rfl) (by decide)
theorem ld_Edge : TyOk Tryd.prog 75 Edge := ⟨by kernel_rfl, (fun h => by cases h), _, Tryd.underlying75, _, rfl⟩
theorem zz_Edge : ZeroOk Tryd.prog 75 [I 0, I 0] := by unfold ZeroOk; kernel_rfl
theorem fa_Edge_0 : FieldOk Tryd.prog 75 0 0 := fieldOk Tryd.underlying75 rfl rfl (by kernel_rfl)
theorem fa_Edge_1 : FieldOk Tryd.prog 75 1 1 := fieldOk Tryd.underlying75 rfl rfl (by kernel_rfl)
theorem ld_Plan : TyOk Tryd.prog 38 Plan := ⟨by kernel_rfl, (fun h => by cases h), _, Tryd.underlying38, _, rfl⟩
theorem zz_Plan : ZeroOk Tryd.prog 38 [I 0, I 0, I 0, I 0, .slice none 0 0] := by unfold ZeroOk; kernel_rfl
theorem fa_Plan_0 : FieldOk Tryd.prog 38 0 0 := fieldOk Tryd.underlying38 rfl rfl (by kernel_rfl)
theorem fa_Plan_1 : FieldOk Tryd.prog 38 1 1 := fieldOk Tryd.underlying38 rfl rfl (by kernel_rfl)
theorem fa_Plan_2 : FieldOk Tryd.prog 38 2 2 := fieldOk Tryd.underlying38 rfl rfl (by kernel_rfl)
theorem fa_Plan_3 : FieldOk Tryd.prog 38 3 3 := fieldOk Tryd.underlying38 rfl rfl (by kernel_rfl)
theorem fa_Plan_4 : FieldOk Tryd.prog 38 4 4 := fieldOk Tryd.underlying38 rfl rfl (by kernel_rfl)
theorem ld_Task : TyOk Tryd.prog 66 Task := ⟨by kernel_rfl, (fun h => by cases h), _, Tryd.underlying66, _, rfl⟩
theorem zz_Task : ZeroOk Tryd.prog 66 [I 0, I 0, I 0, I 0] := by unfold ZeroOk; kernel_rfl
theorem fa_Task_0 : FieldOk Tryd.prog 66 0 0 := fieldOk Tryd.underlying66 rfl rfl (by kernel_rfl)
theorem fa_Task_1 : FieldOk Tryd.prog 66 1 1 := fieldOk Tryd.underlying66 rfl rfl (by kernel_rfl)
theorem fa_Task_2 : FieldOk Tryd.prog 66 2 2 := fieldOk Tryd.underlying66 rfl rfl (by kernel_rfl)
theorem fa_Task_3 : FieldOk Tryd.prog 66 3 3 := fieldOk Tryd.underlying66 rfl rfl (by kernel_rfl)
theorem ld_Run : TyOk Tryd.prog 41 Run := ⟨by kernel_rfl, (fun h => by cases h), _, Tryd.underlying41, _, rfl⟩
theorem zz_Run : ZeroOk Tryd.prog 41 [I 0, I 0, I 0, I 0, I 0, .slice none 0 0, I 0, .slice none 0 0] := by unfold ZeroOk; kernel_rfl
theorem fa_Run_0 : FieldOk Tryd.prog 41 0 0 := fieldOk Tryd.underlying41 rfl rfl (by kernel_rfl)
theorem fa_Run_1 : FieldOk Tryd.prog 41 1 1 := fieldOk Tryd.underlying41 rfl rfl (by kernel_rfl)
theorem fa_Run_2 : FieldOk Tryd.prog 41 2 6 := fieldOk Tryd.underlying41 rfl rfl (by kernel_rfl)
theorem fa_Run_3 : FieldOk Tryd.prog 41 3 7 := fieldOk Tryd.underlying41 rfl rfl (by kernel_rfl)
theorem ld_Reply : TyOk Tryd.prog 25 Reply := ⟨by kernel_rfl, (fun h => by cases h), _, Tryd.underlying25, _, rfl⟩
theorem zz_Reply : ZeroOk Tryd.prog 25 [I 0, I 0, I 0, I 0] := by unfold ZeroOk; kernel_rfl
theorem fa_Reply_0 : FieldOk Tryd.prog 25 0 0 := fieldOk Tryd.underlying25 rfl rfl (by kernel_rfl)
theorem fa_Reply_1 : FieldOk Tryd.prog 25 1 1 := fieldOk Tryd.underlying25 rfl rfl (by kernel_rfl)
theorem fa_Reply_2 : FieldOk Tryd.prog 25 2 2 := fieldOk Tryd.underlying25 rfl rfl (by kernel_rfl)
theorem fa_Reply_3 : FieldOk Tryd.prog 25 3 3 := fieldOk Tryd.underlying25 rfl rfl (by kernel_rfl)
theorem ld_Deed : TyOk Tryd.prog 50 Deed := ⟨by kernel_rfl, (fun h => by cases h), _, Tryd.underlying50, _, rfl⟩
theorem zz_Deed : ZeroOk Tryd.prog 50 [I 0, I 0, I 0, I 0, I 0, I 0, .slice none 0 0, I 0, I 0, I 0, I 0] := by unfold ZeroOk; kernel_rfl
theorem fa_Deed_0 : FieldOk Tryd.prog 50 0 0 := fieldOk Tryd.underlying50 rfl rfl (by kernel_rfl)
theorem fa_Deed_1 : FieldOk Tryd.prog 50 1 1 := fieldOk Tryd.underlying50 rfl rfl (by kernel_rfl)
theorem fa_Deed_2 : FieldOk Tryd.prog 50 2 2 := fieldOk Tryd.underlying50 rfl rfl (by kernel_rfl)
theorem fa_Deed_3 : FieldOk Tryd.prog 50 3 7 := fieldOk Tryd.underlying50 rfl rfl (by kernel_rfl)
theorem fa_Deed_4 : FieldOk Tryd.prog 50 4 8 := fieldOk Tryd.underlying50 rfl rfl (by kernel_rfl)
theorem fa_Deed_5 : FieldOk Tryd.prog 50 5 9 := fieldOk Tryd.underlying50 rfl rfl (by kernel_rfl)
theorem fa_Deed_6 : FieldOk Tryd.prog 50 6 10 := fieldOk Tryd.underlying50 rfl rfl (by kernel_rfl)
theorem ld_EdgeS : TyOk Tryd.prog 36 (List Edge) := ⟨by kernel_rfl, fun _ => rfl, _, Tryd.underlying36, rfl⟩
theorem sl_EdgeS : SlOk Tryd.prog 36 75 Edge := ⟨Tryd.underlying36, by kernel_rfl⟩
theorem ap_EdgeS : ApOk Tryd.prog 36 75 Edge 16 := apOk Tryd.underlying36 (by kernel_rfl) (by decide)
theorem ld_TaskS : TyOk Tryd.prog 39 (List Task) := ⟨by kernel_rfl, fun _ => rfl, _, Tryd.underlying39, rfl⟩
theorem sl_TaskS : SlOk Tryd.prog 39 66 Task := ⟨Tryd.underlying39, by kernel_rfl⟩
theorem ap_TaskS : ApOk Tryd.prog 39 66 Task 32 := apOk Tryd.underlying39 (by kernel_rfl) (by decide)
theorem ld_EdgeL : TyOk Tryd.prog 105 Edge := ⟨by kernel_rfl, (fun h => by cases h), _, Tryd.underlying105, _, rfl⟩
theorem zz_EdgeL : ZeroOk Tryd.prog 105 [I 0, I 0] := by unfold ZeroOk; kernel_rfl
theorem fa_EdgeL_0 : FieldOk Tryd.prog 105 0 0 := fieldOk Tryd.underlying105 rfl rfl (by kernel_rfl)
theorem fa_EdgeL_1 : FieldOk Tryd.prog 105 1 1 := fieldOk Tryd.underlying105 rfl rfl (by kernel_rfl)
theorem ld_PlanL : TyOk Tryd.prog 30 Plan := ⟨by kernel_rfl, (fun h => by cases h), _, Tryd.underlying30, _, rfl⟩
theorem zz_PlanL : ZeroOk Tryd.prog 30 [I 0, I 0, I 0, I 0, .slice none 0 0] := by unfold ZeroOk; kernel_rfl
theorem fa_PlanL_0 : FieldOk Tryd.prog 30 0 0 := fieldOk Tryd.underlying30 rfl rfl (by kernel_rfl)
theorem fa_PlanL_1 : FieldOk Tryd.prog 30 1 1 := fieldOk Tryd.underlying30 rfl rfl (by kernel_rfl)
theorem fa_PlanL_2 : FieldOk Tryd.prog 30 2 2 := fieldOk Tryd.underlying30 rfl rfl (by kernel_rfl)
theorem fa_PlanL_3 : FieldOk Tryd.prog 30 3 3 := fieldOk Tryd.underlying30 rfl rfl (by kernel_rfl)
theorem fa_PlanL_4 : FieldOk Tryd.prog 30 4 4 := fieldOk Tryd.underlying30 rfl rfl (by kernel_rfl)
theorem ld_TaskL : TyOk Tryd.prog 94 Task := ⟨by kernel_rfl, (fun h => by cases h), _, Tryd.underlying94, _, rfl⟩
theorem zz_TaskL : ZeroOk Tryd.prog 94 [I 0, I 0, I 0, I 0] := by unfold ZeroOk; kernel_rfl
theorem fa_TaskL_0 : FieldOk Tryd.prog 94 0 0 := fieldOk Tryd.underlying94 rfl rfl (by kernel_rfl)
theorem fa_TaskL_1 : FieldOk Tryd.prog 94 1 1 := fieldOk Tryd.underlying94 rfl rfl (by kernel_rfl)
theorem fa_TaskL_2 : FieldOk Tryd.prog 94 2 2 := fieldOk Tryd.underlying94 rfl rfl (by kernel_rfl)
theorem fa_TaskL_3 : FieldOk Tryd.prog 94 3 3 := fieldOk Tryd.underlying94 rfl rfl (by kernel_rfl)
theorem ld_RunL : TyOk Tryd.prog 33 Run := ⟨by kernel_rfl, (fun h => by cases h), _, Tryd.underlying33, _, rfl⟩
theorem zz_RunL : ZeroOk Tryd.prog 33 [I 0, I 0, I 0, I 0, I 0, .slice none 0 0, I 0, .slice none 0 0] := by unfold ZeroOk; kernel_rfl
theorem fa_RunL_0 : FieldOk Tryd.prog 33 0 0 := fieldOk Tryd.underlying33 rfl rfl (by kernel_rfl)
theorem fa_RunL_1 : FieldOk Tryd.prog 33 1 1 := fieldOk Tryd.underlying33 rfl rfl (by kernel_rfl)
theorem fa_RunL_2 : FieldOk Tryd.prog 33 2 6 := fieldOk Tryd.underlying33 rfl rfl (by kernel_rfl)
theorem fa_RunL_3 : FieldOk Tryd.prog 33 3 7 := fieldOk Tryd.underlying33 rfl rfl (by kernel_rfl)
theorem ld_ReplyL : TyOk Tryd.prog 23 Reply := ⟨by kernel_rfl, (fun h => by cases h), _, Tryd.underlying23, _, rfl⟩
theorem zz_ReplyL : ZeroOk Tryd.prog 23 [I 0, I 0, I 0, I 0] := by unfold ZeroOk; kernel_rfl
theorem fa_ReplyL_0 : FieldOk Tryd.prog 23 0 0 := fieldOk Tryd.underlying23 rfl rfl (by kernel_rfl)
theorem fa_ReplyL_1 : FieldOk Tryd.prog 23 1 1 := fieldOk Tryd.underlying23 rfl rfl (by kernel_rfl)
theorem fa_ReplyL_2 : FieldOk Tryd.prog 23 2 2 := fieldOk Tryd.underlying23 rfl rfl (by kernel_rfl)
theorem fa_ReplyL_3 : FieldOk Tryd.prog 23 3 3 := fieldOk Tryd.underlying23 rfl rfl (by kernel_rfl)
theorem ld_DeedL : TyOk Tryd.prog 46 Deed := ⟨by kernel_rfl, (fun h => by cases h), _, Tryd.underlying46, _, rfl⟩
theorem zz_DeedL : ZeroOk Tryd.prog 46 [I 0, I 0, I 0, I 0, I 0, I 0, .slice none 0 0, I 0, I 0, I 0, I 0] := by unfold ZeroOk; kernel_rfl
theorem fa_DeedL_0 : FieldOk Tryd.prog 46 0 0 := fieldOk Tryd.underlying46 rfl rfl (by kernel_rfl)
theorem fa_DeedL_1 : FieldOk Tryd.prog 46 1 1 := fieldOk Tryd.underlying46 rfl rfl (by kernel_rfl)
theorem fa_DeedL_2 : FieldOk Tryd.prog 46 2 2 := fieldOk Tryd.underlying46 rfl rfl (by kernel_rfl)
theorem fa_DeedL_3 : FieldOk Tryd.prog 46 3 7 := fieldOk Tryd.underlying46 rfl rfl (by kernel_rfl)
theorem fa_DeedL_4 : FieldOk Tryd.prog 46 4 8 := fieldOk Tryd.underlying46 rfl rfl (by kernel_rfl)
theorem fa_DeedL_5 : FieldOk Tryd.prog 46 5 9 := fieldOk Tryd.underlying46 rfl rfl (by kernel_rfl)
theorem fa_DeedL_6 : FieldOk Tryd.prog 46 6 10 := fieldOk Tryd.underlying46 rfl rfl (by kernel_rfl)
theorem ld_EdgeSL : TyOk Tryd.prog 28 (List Edge) := ⟨by kernel_rfl, fun _ => rfl, _, Tryd.underlying28, rfl⟩
theorem sl_EdgeSL : SlOk Tryd.prog 28 105 Edge := ⟨Tryd.underlying28, by kernel_rfl⟩
theorem ap_EdgeSL : ApOk Tryd.prog 28 105 Edge 16 := apOk Tryd.underlying28 (by kernel_rfl) (by decide)
theorem ld_TaskSL : TyOk Tryd.prog 31 (List Task) := ⟨by kernel_rfl, fun _ => rfl, _, Tryd.underlying31, rfl⟩
theorem sl_TaskSL : SlOk Tryd.prog 31 94 Task := ⟨Tryd.underlying31, by kernel_rfl⟩
theorem ap_TaskSL : ApOk Tryd.prog 31 94 Task 32 := apOk Tryd.underlying31 (by kernel_rfl) (by decide)

/-! ### Fields -/
theorem At.Edge_from_ {w : World} {b o : Nat} {x : Edge} {fp : List Nat} (h : At w b o x fp) : ∃ f1, At w b (o + 0) x.from_ f1 ∧ ∀ c ∈ f1, c ∈ fp := by
  obtain ⟨cs, hr, hc⟩ := h
  obtain ⟨rfl, rfl, hok⟩ := hc
  refine ⟨[], ⟨[I x.from_], fun j v hj => ?_, ⟨rfl, rfl, hok.1⟩⟩, by simp⟩
  have := hr (0 + j) v (by rcases j with _ | j <;> first | exact hj | simp at hj)
  rw [← this, Nat.add_assoc]
theorem At.Edge_to_ {w : World} {b o : Nat} {x : Edge} {fp : List Nat} (h : At w b o x fp) : ∃ f1, At w b (o + 1) x.to_ f1 ∧ ∀ c ∈ f1, c ∈ fp := by
  obtain ⟨cs, hr, hc⟩ := h
  obtain ⟨rfl, rfl, hok⟩ := hc
  refine ⟨[], ⟨[I x.to_], fun j v hj => ?_, ⟨rfl, rfl, hok.2⟩⟩, by simp⟩
  have := hr (1 + j) v (by rcases j with _ | j <;> first | exact hj | simp at hj)
  rw [← this, Nat.add_assoc]
theorem At.Plan_prio {w : World} {b o : Nat} {x : Plan} {fp : List Nat} (h : At w b o x fp) : ∃ f1, At w b (o + 0) x.prio f1 ∧ ∀ c ∈ f1, c ∈ fp := by
  obtain ⟨cs, hr, hc⟩ := h
  obtain ⟨v1, f1, rfl, hok, h1, hfp⟩ := hc
  refine ⟨[], ⟨[I x.prio], fun j v hj => ?_, ⟨rfl, rfl, hok.1⟩⟩, by simp⟩
  have := hr (0 + j) v (by rcases j with _ | j <;> first | exact hj | simp at hj)
  rw [← this, Nat.add_assoc]
theorem At.Plan_most {w : World} {b o : Nat} {x : Plan} {fp : List Nat} (h : At w b o x fp) : ∃ f1, At w b (o + 1) x.most f1 ∧ ∀ c ∈ f1, c ∈ fp := by
  obtain ⟨cs, hr, hc⟩ := h
  obtain ⟨v1, f1, rfl, hok, h1, hfp⟩ := hc
  refine ⟨[], ⟨[I x.most], fun j v hj => ?_, ⟨rfl, rfl, hok.2.1⟩⟩, by simp⟩
  have := hr (1 + j) v (by rcases j with _ | j <;> first | exact hj | simp at hj)
  rw [← this, Nat.add_assoc]
theorem At.Plan_wait {w : World} {b o : Nat} {x : Plan} {fp : List Nat} (h : At w b o x fp) : ∃ f1, At w b (o + 2) x.wait f1 ∧ ∀ c ∈ f1, c ∈ fp := by
  obtain ⟨cs, hr, hc⟩ := h
  obtain ⟨v1, f1, rfl, hok, h1, hfp⟩ := hc
  refine ⟨[], ⟨[I x.wait], fun j v hj => ?_, ⟨rfl, rfl, hok.2.2.1⟩⟩, by simp⟩
  have := hr (2 + j) v (by rcases j with _ | j <;> first | exact hj | simp at hj)
  rw [← this, Nat.add_assoc]
theorem At.Plan_tasks {w : World} {b o : Nat} {x : Plan} {fp : List Nat} (h : At w b o x fp) : ∃ f1, At w b (o + 3) x.tasks f1 ∧ ∀ c ∈ f1, c ∈ fp := by
  obtain ⟨cs, hr, hc⟩ := h
  obtain ⟨v1, f1, rfl, hok, h1, hfp⟩ := hc
  refine ⟨[], ⟨[I x.tasks], fun j v hj => ?_, ⟨rfl, rfl, hok.2.2.2⟩⟩, by simp⟩
  have := hr (3 + j) v (by rcases j with _ | j <;> first | exact hj | simp at hj)
  rw [← this, Nat.add_assoc]
theorem At.Plan_edges {w : World} {b o : Nat} {x : Plan} {fp : List Nat} (h : At w b o x fp) : ∃ f1, At w b (o + 4) x.edges f1 ∧ ∀ c ∈ f1, c ∈ fp := by
  obtain ⟨cs, hr, hc⟩ := h
  obtain ⟨v1, f1, rfl, hok, h1, hfp⟩ := hc
  refine ⟨f1, ⟨[v1], fun j v hj => ?_, ⟨v1, rfl, h1⟩⟩, fun c hc => by rw [hfp]; first | (simp [hc]; done) | grind⟩
  have := hr (4 + j) v (by rcases j with _ | j <;> first | exact hj | simp at hj)
  rw [← this, Nat.add_assoc]
theorem At.Entry_prio {w : World} {b o : Nat} {x : Entry} {fp : List Nat} (h : At w b o x fp) : ∃ f1, At w b (o + 0) x.prio f1 ∧ ∀ c ∈ f1, c ∈ fp := by
  obtain ⟨cs, hr, hc⟩ := h
  obtain ⟨rfl, rfl, hok⟩ := hc
  refine ⟨[], ⟨[I x.prio], fun j v hj => ?_, ⟨rfl, rfl, hok.1⟩⟩, by simp⟩
  have := hr (0 + j) v (by rcases j with _ | j <;> first | exact hj | simp at hj)
  rw [← this, Nat.add_assoc]
theorem At.Entry_seq {w : World} {b o : Nat} {x : Entry} {fp : List Nat} (h : At w b o x fp) : ∃ f1, At w b (o + 1) x.seq f1 ∧ ∀ c ∈ f1, c ∈ fp := by
  obtain ⟨cs, hr, hc⟩ := h
  obtain ⟨rfl, rfl, hok⟩ := hc
  refine ⟨[], ⟨[I x.seq], fun j v hj => ?_, ⟨rfl, rfl, hok.2.1⟩⟩, by simp⟩
  have := hr (1 + j) v (by rcases j with _ | j <;> first | exact hj | simp at hj)
  rw [← this, Nat.add_assoc]
theorem At.Entry_run {w : World} {b o : Nat} {x : Entry} {fp : List Nat} (h : At w b o x fp) : ∃ f1, At w b (o + 2) x.run f1 ∧ ∀ c ∈ f1, c ∈ fp := by
  obtain ⟨cs, hr, hc⟩ := h
  obtain ⟨rfl, rfl, hok⟩ := hc
  refine ⟨[], ⟨[I x.run], fun j v hj => ?_, ⟨rfl, rfl, hok.2.2.1⟩⟩, by simp⟩
  have := hr (2 + j) v (by rcases j with _ | j <;> first | exact hj | simp at hj)
  rw [← this, Nat.add_assoc]
theorem At.Entry_task {w : World} {b o : Nat} {x : Entry} {fp : List Nat} (h : At w b o x fp) : ∃ f1, At w b (o + 3) x.task f1 ∧ ∀ c ∈ f1, c ∈ fp := by
  obtain ⟨cs, hr, hc⟩ := h
  obtain ⟨rfl, rfl, hok⟩ := hc
  refine ⟨[], ⟨[I x.task], fun j v hj => ?_, ⟨rfl, rfl, hok.2.2.2⟩⟩, by simp⟩
  have := hr (3 + j) v (by rcases j with _ | j <;> first | exact hj | simp at hj)
  rw [← this, Nat.add_assoc]
theorem At.Task_state {w : World} {b o : Nat} {x : Task} {fp : List Nat} (h : At w b o x fp) : ∃ f1, At w b (o + 0) x.state f1 ∧ ∀ c ∈ f1, c ∈ fp := by
  obtain ⟨cs, hr, hc⟩ := h
  obtain ⟨rfl, rfl, hok⟩ := hc
  refine ⟨[], ⟨[I x.state], fun j v hj => ?_, ⟨rfl, rfl, hok.1⟩⟩, by simp⟩
  have := hr (0 + j) v (by rcases j with _ | j <;> first | exact hj | simp at hj)
  rw [← this, Nat.add_assoc]
theorem At.Task_need {w : World} {b o : Nat} {x : Task} {fp : List Nat} (h : At w b o x fp) : ∃ f1, At w b (o + 1) x.need f1 ∧ ∀ c ∈ f1, c ∈ fp := by
  obtain ⟨cs, hr, hc⟩ := h
  obtain ⟨rfl, rfl, hok⟩ := hc
  refine ⟨[], ⟨[I x.need], fun j v hj => ?_, ⟨rfl, rfl, hok.2.1⟩⟩, by simp⟩
  have := hr (1 + j) v (by rcases j with _ | j <;> first | exact hj | simp at hj)
  rw [← this, Nat.add_assoc]
theorem At.Task_try_ {w : World} {b o : Nat} {x : Task} {fp : List Nat} (h : At w b o x fp) : ∃ f1, At w b (o + 2) x.try_ f1 ∧ ∀ c ∈ f1, c ∈ fp := by
  obtain ⟨cs, hr, hc⟩ := h
  obtain ⟨rfl, rfl, hok⟩ := hc
  refine ⟨[], ⟨[I x.try_], fun j v hj => ?_, ⟨rfl, rfl, hok.2.2.1⟩⟩, by simp⟩
  have := hr (2 + j) v (by rcases j with _ | j <;> first | exact hj | simp at hj)
  rw [← this, Nat.add_assoc]
theorem At.Task_until_ {w : World} {b o : Nat} {x : Task} {fp : List Nat} (h : At w b o x fp) : ∃ f1, At w b (o + 3) x.until_ f1 ∧ ∀ c ∈ f1, c ∈ fp := by
  obtain ⟨cs, hr, hc⟩ := h
  obtain ⟨rfl, rfl, hok⟩ := hc
  refine ⟨[], ⟨[I x.until_], fun j v hj => ?_, ⟨rfl, rfl, hok.2.2.2⟩⟩, by simp⟩
  have := hr (3 + j) v (by rcases j with _ | j <;> first | exact hj | simp at hj)
  rw [← this, Nat.add_assoc]
theorem At.Run_id {w : World} {b o : Nat} {x : Run} {fp : List Nat} (h : At w b o x fp) : ∃ f1, At w b (o + 0) x.id f1 ∧ ∀ c ∈ f1, c ∈ fp := by
  obtain ⟨cs, hr, hc⟩ := h
  obtain ⟨v1, v2, f1, f2, rfl, hok, h1, h2, hfp⟩ := hc
  refine ⟨[], ⟨[I x.id], fun j v hj => ?_, ⟨rfl, rfl, hok.1⟩⟩, by simp⟩
  have := hr (0 + j) v (by rcases j with _ | j <;> first | exact hj | simp at hj)
  rw [← this, Nat.add_assoc]
theorem At.Run_plan {w : World} {b o : Nat} {x : Run} {fp : List Nat} (h : At w b o x fp) : ∃ f1, At w b (o + 1) x.plan f1 ∧ ∀ c ∈ f1, c ∈ fp := by
  obtain ⟨cs, hr, hc⟩ := h
  obtain ⟨v1, v2, f1, f2, rfl, hok, h1, h2, hfp⟩ := hc
  refine ⟨f1, ⟨[I x.plan.prio, I x.plan.most, I x.plan.wait, I x.plan.tasks, v1], fun j v hj => ?_, ⟨v1, f1, rfl, hok.2.1, h1, rfl⟩⟩, fun c hc => by rw [hfp]; first | (simp [hc]; done) | grind⟩
  have := hr (1 + j) v (by rcases j with _ | _ | _ | _ | _ | j <;> first | exact hj | simp at hj)
  rw [← this, Nat.add_assoc]
theorem At.Run_state {w : World} {b o : Nat} {x : Run} {fp : List Nat} (h : At w b o x fp) : ∃ f1, At w b (o + 6) x.state f1 ∧ ∀ c ∈ f1, c ∈ fp := by
  obtain ⟨cs, hr, hc⟩ := h
  obtain ⟨v1, v2, f1, f2, rfl, hok, h1, h2, hfp⟩ := hc
  refine ⟨[], ⟨[I x.state], fun j v hj => ?_, ⟨rfl, rfl, hok.2.2⟩⟩, by simp⟩
  have := hr (6 + j) v (by rcases j with _ | j <;> first | exact hj | simp at hj)
  rw [← this, Nat.add_assoc]
theorem At.Run_tasks {w : World} {b o : Nat} {x : Run} {fp : List Nat} (h : At w b o x fp) : ∃ f1, At w b (o + 7) x.tasks f1 ∧ ∀ c ∈ f1, c ∈ fp := by
  obtain ⟨cs, hr, hc⟩ := h
  obtain ⟨v1, v2, f1, f2, rfl, hok, h1, h2, hfp⟩ := hc
  refine ⟨f2, ⟨[v2], fun j v hj => ?_, ⟨v2, rfl, h2⟩⟩, fun c hc => by rw [hfp]; first | (simp [hc]; done) | grind⟩
  have := hr (7 + j) v (by rcases j with _ | j <;> first | exact hj | simp at hj)
  rw [← this, Nat.add_assoc]
theorem At.Yard_now {w : World} {b o : Nat} {x : Yard} {fp : List Nat} (h : At w b o x fp) : ∃ f1, At w b (o + 0) x.now f1 ∧ ∀ c ∈ f1, c ∈ fp := by
  obtain ⟨cs, hr, hc⟩ := h
  obtain ⟨v1, v2, f1, f2, rfl, hok, h1, h2, hfp⟩ := hc
  refine ⟨[], ⟨[I x.now], fun j v hj => ?_, ⟨rfl, rfl, hok.1⟩⟩, by simp⟩
  have := hr (0 + j) v (by rcases j with _ | j <;> first | exact hj | simp at hj)
  rw [← this, Nat.add_assoc]
theorem At.Yard_seq {w : World} {b o : Nat} {x : Yard} {fp : List Nat} (h : At w b o x fp) : ∃ f1, At w b (o + 1) x.seq f1 ∧ ∀ c ∈ f1, c ∈ fp := by
  obtain ⟨cs, hr, hc⟩ := h
  obtain ⟨v1, v2, f1, f2, rfl, hok, h1, h2, hfp⟩ := hc
  refine ⟨[], ⟨[I x.seq], fun j v hj => ?_, ⟨rfl, rfl, hok.2⟩⟩, by simp⟩
  have := hr (1 + j) v (by rcases j with _ | j <;> first | exact hj | simp at hj)
  rw [← this, Nat.add_assoc]
theorem At.Yard_shelf {w : World} {b o : Nat} {x : Yard} {fp : List Nat} (h : At w b o x fp) : ∃ f1, At w b (o + 2) x.shelf f1 ∧ ∀ c ∈ f1, c ∈ fp := by
  obtain ⟨cs, hr, hc⟩ := h
  obtain ⟨v1, v2, f1, f2, rfl, hok, h1, h2, hfp⟩ := hc
  refine ⟨f1, ⟨[v1], fun j v hj => ?_, ⟨v1, rfl, h1⟩⟩, fun c hc => by rw [hfp]; first | (simp [hc]; done) | grind⟩
  have := hr (2 + j) v (by rcases j with _ | j <;> first | exact hj | simp at hj)
  rw [← this, Nat.add_assoc]
theorem At.Yard_runs {w : World} {b o : Nat} {x : Yard} {fp : List Nat} (h : At w b o x fp) : ∃ f1, At w b (o + 3) x.runs f1 ∧ ∀ c ∈ f1, c ∈ fp := by
  obtain ⟨cs, hr, hc⟩ := h
  obtain ⟨v1, v2, f1, f2, rfl, hok, h1, h2, hfp⟩ := hc
  refine ⟨f2, ⟨[v2], fun j v hj => ?_, ⟨v2, rfl, h2⟩⟩, fun c hc => by rw [hfp]; first | (simp [hc]; done) | grind⟩
  have := hr (3 + j) v (by rcases j with _ | j <;> first | exact hj | simp at hj)
  rw [← this, Nat.add_assoc]
theorem At.Reply_code {w : World} {b o : Nat} {x : Reply} {fp : List Nat} (h : At w b o x fp) : ∃ f1, At w b (o + 0) x.code f1 ∧ ∀ c ∈ f1, c ∈ fp := by
  obtain ⟨cs, hr, hc⟩ := h
  obtain ⟨rfl, rfl, hok⟩ := hc
  refine ⟨[], ⟨[I x.code], fun j v hj => ?_, ⟨rfl, rfl, hok.1⟩⟩, by simp⟩
  have := hr (0 + j) v (by rcases j with _ | j <;> first | exact hj | simp at hj)
  rw [← this, Nat.add_assoc]
theorem At.Reply_run {w : World} {b o : Nat} {x : Reply} {fp : List Nat} (h : At w b o x fp) : ∃ f1, At w b (o + 1) x.run f1 ∧ ∀ c ∈ f1, c ∈ fp := by
  obtain ⟨cs, hr, hc⟩ := h
  obtain ⟨rfl, rfl, hok⟩ := hc
  refine ⟨[], ⟨[I x.run], fun j v hj => ?_, ⟨rfl, rfl, hok.2.1⟩⟩, by simp⟩
  have := hr (1 + j) v (by rcases j with _ | j <;> first | exact hj | simp at hj)
  rw [← this, Nat.add_assoc]
theorem At.Reply_task {w : World} {b o : Nat} {x : Reply} {fp : List Nat} (h : At w b o x fp) : ∃ f1, At w b (o + 2) x.task f1 ∧ ∀ c ∈ f1, c ∈ fp := by
  obtain ⟨cs, hr, hc⟩ := h
  obtain ⟨rfl, rfl, hok⟩ := hc
  refine ⟨[], ⟨[I x.task], fun j v hj => ?_, ⟨rfl, rfl, hok.2.2.1⟩⟩, by simp⟩
  have := hr (2 + j) v (by rcases j with _ | j <;> first | exact hj | simp at hj)
  rw [← this, Nat.add_assoc]
theorem At.Reply_try_ {w : World} {b o : Nat} {x : Reply} {fp : List Nat} (h : At w b o x fp) : ∃ f1, At w b (o + 3) x.try_ f1 ∧ ∀ c ∈ f1, c ∈ fp := by
  obtain ⟨cs, hr, hc⟩ := h
  obtain ⟨rfl, rfl, hok⟩ := hc
  refine ⟨[], ⟨[I x.try_], fun j v hj => ?_, ⟨rfl, rfl, hok.2.2.2⟩⟩, by simp⟩
  have := hr (3 + j) v (by rcases j with _ | j <;> first | exact hj | simp at hj)
  rw [← this, Nat.add_assoc]
theorem At.Deed_kind {w : World} {b o : Nat} {x : Deed} {fp : List Nat} (h : At w b o x fp) : ∃ f1, At w b (o + 0) x.kind f1 ∧ ∀ c ∈ f1, c ∈ fp := by
  obtain ⟨cs, hr, hc⟩ := h
  obtain ⟨v1, f1, rfl, hok, h1, hfp⟩ := hc
  refine ⟨[], ⟨[I x.kind], fun j v hj => ?_, ⟨rfl, rfl, hok.1⟩⟩, by simp⟩
  have := hr (0 + j) v (by rcases j with _ | j <;> first | exact hj | simp at hj)
  rw [← this, Nat.add_assoc]
theorem At.Deed_run {w : World} {b o : Nat} {x : Deed} {fp : List Nat} (h : At w b o x fp) : ∃ f1, At w b (o + 1) x.run f1 ∧ ∀ c ∈ f1, c ∈ fp := by
  obtain ⟨cs, hr, hc⟩ := h
  obtain ⟨v1, f1, rfl, hok, h1, hfp⟩ := hc
  refine ⟨[], ⟨[I x.run], fun j v hj => ?_, ⟨rfl, rfl, hok.2.1⟩⟩, by simp⟩
  have := hr (1 + j) v (by rcases j with _ | j <;> first | exact hj | simp at hj)
  rw [← this, Nat.add_assoc]
theorem At.Deed_plan {w : World} {b o : Nat} {x : Deed} {fp : List Nat} (h : At w b o x fp) : ∃ f1, At w b (o + 2) x.plan f1 ∧ ∀ c ∈ f1, c ∈ fp := by
  obtain ⟨cs, hr, hc⟩ := h
  obtain ⟨v1, f1, rfl, hok, h1, hfp⟩ := hc
  refine ⟨f1, ⟨[I x.plan.prio, I x.plan.most, I x.plan.wait, I x.plan.tasks, v1], fun j v hj => ?_, ⟨v1, f1, rfl, hok.2.2.1, h1, rfl⟩⟩, fun c hc => by rw [hfp]; first | (simp [hc]; done) | grind⟩
  have := hr (2 + j) v (by rcases j with _ | _ | _ | _ | _ | j <;> first | exact hj | simp at hj)
  rw [← this, Nat.add_assoc]
theorem At.Deed_task {w : World} {b o : Nat} {x : Deed} {fp : List Nat} (h : At w b o x fp) : ∃ f1, At w b (o + 7) x.task f1 ∧ ∀ c ∈ f1, c ∈ fp := by
  obtain ⟨cs, hr, hc⟩ := h
  obtain ⟨v1, f1, rfl, hok, h1, hfp⟩ := hc
  refine ⟨[], ⟨[I x.task], fun j v hj => ?_, ⟨rfl, rfl, hok.2.2.2.1⟩⟩, by simp⟩
  have := hr (7 + j) v (by rcases j with _ | j <;> first | exact hj | simp at hj)
  rw [← this, Nat.add_assoc]
theorem At.Deed_try_ {w : World} {b o : Nat} {x : Deed} {fp : List Nat} (h : At w b o x fp) : ∃ f1, At w b (o + 8) x.try_ f1 ∧ ∀ c ∈ f1, c ∈ fp := by
  obtain ⟨cs, hr, hc⟩ := h
  obtain ⟨v1, f1, rfl, hok, h1, hfp⟩ := hc
  refine ⟨[], ⟨[I x.try_], fun j v hj => ?_, ⟨rfl, rfl, hok.2.2.2.2.1⟩⟩, by simp⟩
  have := hr (8 + j) v (by rcases j with _ | j <;> first | exact hj | simp at hj)
  rw [← this, Nat.add_assoc]
theorem At.Deed_worker {w : World} {b o : Nat} {x : Deed} {fp : List Nat} (h : At w b o x fp) : ∃ f1, At w b (o + 9) x.worker f1 ∧ ∀ c ∈ f1, c ∈ fp := by
  obtain ⟨cs, hr, hc⟩ := h
  obtain ⟨v1, f1, rfl, hok, h1, hfp⟩ := hc
  refine ⟨[], ⟨[I x.worker], fun j v hj => ?_, ⟨rfl, rfl, hok.2.2.2.2.2.1⟩⟩, by simp⟩
  have := hr (9 + j) v (by rcases j with _ | j <;> first | exact hj | simp at hj)
  rw [← this, Nat.add_assoc]
theorem At.Deed_draw {w : World} {b o : Nat} {x : Deed} {fp : List Nat} (h : At w b o x fp) : ∃ f1, At w b (o + 10) x.draw f1 ∧ ∀ c ∈ f1, c ∈ fp := by
  obtain ⟨cs, hr, hc⟩ := h
  obtain ⟨v1, f1, rfl, hok, h1, hfp⟩ := hc
  refine ⟨[], ⟨[I x.draw], fun j v hj => ?_, ⟨rfl, rfl, hok.2.2.2.2.2.2⟩⟩, by simp⟩
  have := hr (10 + j) v (by rcases j with _ | j <;> first | exact hj | simp at hj)
  rw [← this, Nat.add_assoc]
theorem At.Note_seq {w : World} {b o : Nat} {x : Note} {fp : List Nat} (h : At w b o x fp) : ∃ f1, At w b (o + 0) x.seq f1 ∧ ∀ c ∈ f1, c ∈ fp := by
  obtain ⟨cs, hr, hc⟩ := h
  obtain ⟨v1, f1, rfl, hok, h1, hfp⟩ := hc
  refine ⟨[], ⟨[I x.seq], fun j v hj => ?_, ⟨rfl, rfl, hok.1⟩⟩, by simp⟩
  have := hr (0 + j) v (by rcases j with _ | j <;> first | exact hj | simp at hj)
  rw [← this, Nat.add_assoc]
theorem At.Note_deed {w : World} {b o : Nat} {x : Note} {fp : List Nat} (h : At w b o x fp) : ∃ f1, At w b (o + 1) x.deed f1 ∧ ∀ c ∈ f1, c ∈ fp := by
  obtain ⟨cs, hr, hc⟩ := h
  obtain ⟨v1, f1, rfl, hok, h1, hfp⟩ := hc
  refine ⟨f1, ⟨[I x.deed.kind, I x.deed.run, I x.deed.plan.prio, I x.deed.plan.most, I x.deed.plan.wait, I x.deed.plan.tasks, v1, I x.deed.task, I x.deed.try_, I x.deed.worker, I x.deed.draw], fun j v hj => ?_, ⟨v1, f1, rfl, hok.2, h1, rfl⟩⟩, fun c hc => by rw [hfp]; first | (simp [hc]; done) | grind⟩
  have := hr (1 + j) v (by rcases j with _ | _ | _ | _ | _ | _ | _ | _ | _ | _ | _ | j <;> first | exact hj | simp at hj)
  rw [← this, Nat.add_assoc]
theorem At.Wait_call {w : World} {b o : Nat} {x : Wait} {fp : List Nat} (h : At w b o x fp) : ∃ f1, At w b (o + 0) x.call f1 ∧ ∀ c ∈ f1, c ∈ fp := by
  obtain ⟨cs, hr, hc⟩ := h
  obtain ⟨rfl, rfl, hok⟩ := hc
  refine ⟨[], ⟨[I x.call], fun j v hj => ?_, ⟨rfl, rfl, hok.1⟩⟩, by simp⟩
  have := hr (0 + j) v (by rcases j with _ | j <;> first | exact hj | simp at hj)
  rw [← this, Nat.add_assoc]
theorem At.Wait_reply {w : World} {b o : Nat} {x : Wait} {fp : List Nat} (h : At w b o x fp) : ∃ f1, At w b (o + 1) x.reply f1 ∧ ∀ c ∈ f1, c ∈ fp := by
  obtain ⟨cs, hr, hc⟩ := h
  obtain ⟨rfl, rfl, hok⟩ := hc
  refine ⟨[], ⟨[I x.reply.code, I x.reply.run, I x.reply.task, I x.reply.try_], fun j v hj => ?_, ⟨rfl, rfl, hok.2⟩⟩, by simp⟩
  have := hr (1 + j) v (by rcases j with _ | _ | _ | _ | j <;> first | exact hj | simp at hj)
  rw [← this, Nat.add_assoc]
theorem At.File_name {w : World} {b o : Nat} {x : File} {fp : List Nat} (h : At w b o x fp) : ∃ f1, At w b (o + 0) x.name f1 ∧ ∀ c ∈ f1, c ∈ fp := by
  obtain ⟨cs, hr, hc⟩ := h
  obtain ⟨rfl, rfl, hok⟩ := hc
  refine ⟨[], ⟨[.string x.name], fun j v hj => ?_, ⟨rfl, rfl, hok.1⟩⟩, by simp⟩
  have := hr (0 + j) v (by rcases j with _ | j <;> first | exact hj | simp at hj)
  rw [← this, Nat.add_assoc]
theorem At.File_data {w : World} {b o : Nat} {x : File} {fp : List Nat} (h : At w b o x fp) : ∃ f1, At w b (o + 1) x.data f1 ∧ ∀ c ∈ f1, c ∈ fp := by
  obtain ⟨cs, hr, hc⟩ := h
  obtain ⟨rfl, rfl, hok⟩ := hc
  refine ⟨[], ⟨[.string x.data], fun j v hj => ?_, ⟨rfl, rfl, hok.2.1⟩⟩, by simp⟩
  have := hr (1 + j) v (by rcases j with _ | j <;> first | exact hj | simp at hj)
  rw [← this, Nat.add_assoc]
theorem At.File_safe {w : World} {b o : Nat} {x : File} {fp : List Nat} (h : At w b o x fp) : ∃ f1, At w b (o + 2) x.safe f1 ∧ ∀ c ∈ f1, c ∈ fp := by
  obtain ⟨cs, hr, hc⟩ := h
  obtain ⟨rfl, rfl, hok⟩ := hc
  refine ⟨[], ⟨[I x.safe], fun j v hj => ?_, ⟨rfl, rfl, hok.2.2⟩⟩, by simp⟩
  have := hr (2 + j) v (by rcases j with _ | j <;> first | exact hj | simp at hj)
  rw [← this, Nat.add_assoc]
theorem At.Disk_files {w : World} {b o : Nat} {x : Disk} {fp : List Nat} (h : At w b o x fp) : ∃ f1, At w b (o + 0) x.files f1 ∧ ∀ c ∈ f1, c ∈ fp := by
  obtain ⟨cs, hr, hc⟩ := h
  obtain ⟨v1, f1, rfl, hok, h1, hfp⟩ := hc
  refine ⟨f1, ⟨[v1], fun j v hj => ?_, ⟨v1, rfl, h1⟩⟩, fun c hc => by rw [hfp]; first | (simp [hc]; done) | grind⟩
  have := hr (0 + j) v (by rcases j with _ | j <;> first | exact hj | simp at hj)
  rw [← this, Nat.add_assoc]
theorem At.Engine_yard {w : World} {b o : Nat} {x : Engine} {fp : List Nat} (h : At w b o x fp) : ∃ f1, At w b (o + 0) x.yard f1 ∧ ∀ c ∈ f1, c ∈ fp := by
  obtain ⟨cs, hr, hc⟩ := h
  obtain ⟨v1, v2, v3, v4, f1, f2, f3, f4, rfl, hok, h1, h2, h3, h4, hfp⟩ := hc
  refine ⟨f1 ++ (f2), ⟨[I x.yard.now, I x.yard.seq, v1, v2], fun j v hj => ?_, ⟨v1, v2, f1, f2, rfl, hok.1, h1, h2, rfl⟩⟩, fun c hc => by rw [hfp]; first | (simp [hc]; done) | grind⟩
  have := hr (0 + j) v (by rcases j with _ | _ | _ | _ | j <;> first | exact hj | simp at hj)
  rw [← this, Nat.add_assoc]
theorem At.Engine_disk {w : World} {b o : Nat} {x : Engine} {fp : List Nat} (h : At w b o x fp) : ∃ f1, At w b (o + 4) x.disk f1 ∧ ∀ c ∈ f1, c ∈ fp := by
  obtain ⟨cs, hr, hc⟩ := h
  obtain ⟨v1, v2, v3, v4, f1, f2, f3, f4, rfl, hok, h1, h2, h3, h4, hfp⟩ := hc
  refine ⟨f3, ⟨[v3], fun j v hj => ?_, ⟨v3, f3, rfl, trivial, h3, rfl⟩⟩, fun c hc => by rw [hfp]; first | (simp [hc]; done) | grind⟩
  have := hr (4 + j) v (by rcases j with _ | j <;> first | exact hj | simp at hj)
  rw [← this, Nat.add_assoc]
theorem At.Engine_next {w : World} {b o : Nat} {x : Engine} {fp : List Nat} (h : At w b o x fp) : ∃ f1, At w b (o + 5) x.next f1 ∧ ∀ c ∈ f1, c ∈ fp := by
  obtain ⟨cs, hr, hc⟩ := h
  obtain ⟨v1, v2, v3, v4, f1, f2, f3, f4, rfl, hok, h1, h2, h3, h4, hfp⟩ := hc
  refine ⟨[], ⟨[I x.next], fun j v hj => ?_, ⟨rfl, rfl, hok.2.1⟩⟩, by simp⟩
  have := hr (5 + j) v (by rcases j with _ | j <;> first | exact hj | simp at hj)
  rw [← this, Nat.add_assoc]
theorem At.Engine_calls {w : World} {b o : Nat} {x : Engine} {fp : List Nat} (h : At w b o x fp) : ∃ f1, At w b (o + 6) x.calls f1 ∧ ∀ c ∈ f1, c ∈ fp := by
  obtain ⟨cs, hr, hc⟩ := h
  obtain ⟨v1, v2, v3, v4, f1, f2, f3, f4, rfl, hok, h1, h2, h3, h4, hfp⟩ := hc
  refine ⟨[], ⟨[I x.calls], fun j v hj => ?_, ⟨rfl, rfl, hok.2.2.1⟩⟩, by simp⟩
  have := hr (6 + j) v (by rcases j with _ | j <;> first | exact hj | simp at hj)
  rw [← this, Nat.add_assoc]
theorem At.Engine_waits {w : World} {b o : Nat} {x : Engine} {fp : List Nat} (h : At w b o x fp) : ∃ f1, At w b (o + 7) x.waits f1 ∧ ∀ c ∈ f1, c ∈ fp := by
  obtain ⟨cs, hr, hc⟩ := h
  obtain ⟨v1, v2, v3, v4, f1, f2, f3, f4, rfl, hok, h1, h2, h3, h4, hfp⟩ := hc
  refine ⟨f4, ⟨[v4], fun j v hj => ?_, ⟨v4, rfl, h4⟩⟩, fun c hc => by rw [hfp]; first | (simp [hc]; done) | grind⟩
  have := hr (7 + j) v (by rcases j with _ | j <;> first | exact hj | simp at hj)
  rw [← this, Nat.add_assoc]
theorem At.Engine_state {w : World} {b o : Nat} {x : Engine} {fp : List Nat} (h : At w b o x fp) : ∃ f1, At w b (o + 8) x.state f1 ∧ ∀ c ∈ f1, c ∈ fp := by
  obtain ⟨cs, hr, hc⟩ := h
  obtain ⟨v1, v2, v3, v4, f1, f2, f3, f4, rfl, hok, h1, h2, h3, h4, hfp⟩ := hc
  refine ⟨[], ⟨[I x.state], fun j v hj => ?_, ⟨rfl, rfl, hok.2.2.2⟩⟩, by simp⟩
  have := hr (8 + j) v (by rcases j with _ | j <;> first | exact hj | simp at hj)
  rw [← this, Nat.add_assoc]
theorem At.Engine_broken {w : World} {b o : Nat} {x : Engine} {fp : List Nat} (h : At w b o x fp) : ∃ f1, At w b (o + 9) x.broken f1 ∧ ∀ c ∈ f1, c ∈ fp := by
  obtain ⟨cs, hr, hc⟩ := h
  obtain ⟨v1, v2, v3, v4, f1, f2, f3, f4, rfl, hok, h1, h2, h3, h4, hfp⟩ := hc
  refine ⟨[], ⟨[.bool x.broken], fun j v hj => ?_, ⟨rfl, rfl, trivial⟩⟩, by simp⟩
  have := hr (9 + j) v (by rcases j with _ | j <;> first | exact hj | simp at hj)
  rw [← this, Nat.add_assoc]
theorem At.World_engine {w : World} {b o : Nat} {x : WorldD} {fp : List Nat} (h : At w b o x fp) : ∃ f1, At w b (o + 0) x.engine f1 ∧ ∀ c ∈ f1, c ∈ fp := by
  obtain ⟨cs, hr, hc⟩ := h
  obtain ⟨v1, v2, v3, v4, v5, v6, f1, f2, f3, f4, f5, f6, rfl, hok, h1, h2, h3, h4, h5, h6, hfp⟩ := hc
  refine ⟨f1 ++ (f2 ++ (f3 ++ (f4))), ⟨[I x.engine.yard.now, I x.engine.yard.seq, v1, v2, v3, I x.engine.next, I x.engine.calls, v4, I x.engine.state, .bool x.engine.broken], fun j v hj => ?_, ⟨v1, v2, v3, v4, f1, f2, f3, f4, rfl, hok.1, h1, h2, h3, h4, rfl⟩⟩, fun c hc => by rw [hfp]; first | (simp [hc]; done) | grind⟩
  have := hr (0 + j) v (by rcases j with _ | _ | _ | _ | _ | _ | _ | _ | _ | _ | j <;> first | exact hj | simp at hj)
  rw [← this, Nat.add_assoc]
theorem At.World_deeds {w : World} {b o : Nat} {x : WorldD} {fp : List Nat} (h : At w b o x fp) : ∃ f1, At w b (o + 10) x.deeds f1 ∧ ∀ c ∈ f1, c ∈ fp := by
  obtain ⟨cs, hr, hc⟩ := h
  obtain ⟨v1, v2, v3, v4, v5, v6, f1, f2, f3, f4, f5, f6, rfl, hok, h1, h2, h3, h4, h5, h6, hfp⟩ := hc
  refine ⟨f5, ⟨[v5], fun j v hj => ?_, ⟨v5, rfl, h5⟩⟩, fun c hc => by rw [hfp]; first | (simp [hc]; done) | grind⟩
  have := hr (10 + j) v (by rcases j with _ | j <;> first | exact hj | simp at hj)
  rw [← this, Nat.add_assoc]
theorem At.World_replies {w : World} {b o : Nat} {x : WorldD} {fp : List Nat} (h : At w b o x fp) : ∃ f1, At w b (o + 11) x.replies f1 ∧ ∀ c ∈ f1, c ∈ fp := by
  obtain ⟨cs, hr, hc⟩ := h
  obtain ⟨v1, v2, v3, v4, v5, v6, f1, f2, f3, f4, f5, f6, rfl, hok, h1, h2, h3, h4, h5, h6, hfp⟩ := hc
  refine ⟨f6, ⟨[v6], fun j v hj => ?_, ⟨v6, rfl, h6⟩⟩, fun c hc => by rw [hfp]; first | (simp [hc]; done) | grind⟩
  have := hr (11 + j) v (by rcases j with _ | j <;> first | exact hj | simp at hj)
  rw [← this, Nat.add_assoc]
theorem At.World_told {w : World} {b o : Nat} {x : WorldD} {fp : List Nat} (h : At w b o x fp) : ∃ f1, At w b (o + 12) x.told f1 ∧ ∀ c ∈ f1, c ∈ fp := by
  obtain ⟨cs, hr, hc⟩ := h
  obtain ⟨v1, v2, v3, v4, v5, v6, f1, f2, f3, f4, f5, f6, rfl, hok, h1, h2, h3, h4, h5, h6, hfp⟩ := hc
  refine ⟨[], ⟨[I x.told], fun j v hj => ?_, ⟨rfl, rfl, hok.2.1⟩⟩, by simp⟩
  have := hr (12 + j) v (by rcases j with _ | j <;> first | exact hj | simp at hj)
  rw [← this, Nat.add_assoc]
theorem At.World_fell {w : World} {b o : Nat} {x : WorldD} {fp : List Nat} (h : At w b o x fp) : ∃ f1, At w b (o + 13) x.fell f1 ∧ ∀ c ∈ f1, c ∈ fp := by
  obtain ⟨cs, hr, hc⟩ := h
  obtain ⟨v1, v2, v3, v4, v5, v6, f1, f2, f3, f4, f5, f6, rfl, hok, h1, h2, h3, h4, h5, h6, hfp⟩ := hc
  refine ⟨[], ⟨[I x.fell], fun j v hj => ?_, ⟨rfl, rfl, hok.2.2⟩⟩, by simp⟩
  have := hr (13 + j) v (by rcases j with _ | j <;> first | exact hj | simp at hj)
  rw [← this, Nat.add_assoc]
theorem At.Act_kind {w : World} {b o : Nat} {x : ActD} {fp : List Nat} (h : At w b o x fp) : ∃ f1, At w b (o + 0) x.kind f1 ∧ ∀ c ∈ f1, c ∈ fp := by
  obtain ⟨cs, hr, hc⟩ := h
  obtain ⟨v1, v2, f1, f2, rfl, hok, h1, h2, hfp⟩ := hc
  refine ⟨[], ⟨[I x.kind], fun j v hj => ?_, ⟨rfl, rfl, hok.1⟩⟩, by simp⟩
  have := hr (0 + j) v (by rcases j with _ | j <;> first | exact hj | simp at hj)
  rw [← this, Nat.add_assoc]
theorem At.Act_deed {w : World} {b o : Nat} {x : ActD} {fp : List Nat} (h : At w b o x fp) : ∃ f1, At w b (o + 1) x.deed f1 ∧ ∀ c ∈ f1, c ∈ fp := by
  obtain ⟨cs, hr, hc⟩ := h
  obtain ⟨v1, v2, f1, f2, rfl, hok, h1, h2, hfp⟩ := hc
  refine ⟨f1, ⟨[I x.deed.kind, I x.deed.run, I x.deed.plan.prio, I x.deed.plan.most, I x.deed.plan.wait, I x.deed.plan.tasks, v1, I x.deed.task, I x.deed.try_, I x.deed.worker, I x.deed.draw], fun j v hj => ?_, ⟨v1, f1, rfl, hok.2.1, h1, rfl⟩⟩, fun c hc => by rw [hfp]; first | (simp [hc]; done) | grind⟩
  have := hr (1 + j) v (by rcases j with _ | _ | _ | _ | _ | _ | _ | _ | _ | _ | _ | j <;> first | exact hj | simp at hj)
  rw [← this, Nat.add_assoc]
theorem At.Act_n {w : World} {b o : Nat} {x : ActD} {fp : List Nat} (h : At w b o x fp) : ∃ f1, At w b (o + 12) x.n f1 ∧ ∀ c ∈ f1, c ∈ fp := by
  obtain ⟨cs, hr, hc⟩ := h
  obtain ⟨v1, v2, f1, f2, rfl, hok, h1, h2, hfp⟩ := hc
  refine ⟨[], ⟨[I x.n], fun j v hj => ?_, ⟨rfl, rfl, hok.2.2⟩⟩, by simp⟩
  have := hr (12 + j) v (by rcases j with _ | j <;> first | exact hj | simp at hj)
  rw [← this, Nat.add_assoc]
theorem At.Act_keep {w : World} {b o : Nat} {x : ActD} {fp : List Nat} (h : At w b o x fp) : ∃ f1, At w b (o + 13) x.keep f1 ∧ ∀ c ∈ f1, c ∈ fp := by
  obtain ⟨cs, hr, hc⟩ := h
  obtain ⟨v1, v2, f1, f2, rfl, hok, h1, h2, hfp⟩ := hc
  refine ⟨f2, ⟨[v2], fun j v hj => ?_, ⟨v2, rfl, h2⟩⟩, fun c hc => by rw [hfp]; first | (simp [hc]; done) | grind⟩
  have := hr (13 + j) v (by rcases j with _ | j <;> first | exact hj | simp at hj)
  rw [← this, Nat.add_assoc]
theorem At.Hand_run {w : World} {b o : Nat} {x : Hand} {fp : List Nat} (h : At w b o x fp) : ∃ f1, At w b (o + 0) x.run f1 ∧ ∀ c ∈ f1, c ∈ fp := by
  obtain ⟨cs, hr, hc⟩ := h
  obtain ⟨rfl, rfl, hok⟩ := hc
  refine ⟨[], ⟨[I x.run], fun j v hj => ?_, ⟨rfl, rfl, hok.1⟩⟩, by simp⟩
  have := hr (0 + j) v (by rcases j with _ | j <;> first | exact hj | simp at hj)
  rw [← this, Nat.add_assoc]
theorem At.Hand_task {w : World} {b o : Nat} {x : Hand} {fp : List Nat} (h : At w b o x fp) : ∃ f1, At w b (o + 1) x.task f1 ∧ ∀ c ∈ f1, c ∈ fp := by
  obtain ⟨cs, hr, hc⟩ := h
  obtain ⟨rfl, rfl, hok⟩ := hc
  refine ⟨[], ⟨[I x.task], fun j v hj => ?_, ⟨rfl, rfl, hok.2.1⟩⟩, by simp⟩
  have := hr (1 + j) v (by rcases j with _ | j <;> first | exact hj | simp at hj)
  rw [← this, Nat.add_assoc]
theorem At.Hand_try_ {w : World} {b o : Nat} {x : Hand} {fp : List Nat} (h : At w b o x fp) : ∃ f1, At w b (o + 2) x.try_ f1 ∧ ∀ c ∈ f1, c ∈ fp := by
  obtain ⟨cs, hr, hc⟩ := h
  obtain ⟨rfl, rfl, hok⟩ := hc
  refine ⟨[], ⟨[I x.try_], fun j v hj => ?_, ⟨rfl, rfl, hok.2.2.1⟩⟩, by simp⟩
  have := hr (2 + j) v (by rcases j with _ | j <;> first | exact hj | simp at hj)
  rw [← this, Nat.add_assoc]
theorem At.Hand_at_ {w : World} {b o : Nat} {x : Hand} {fp : List Nat} (h : At w b o x fp) : ∃ f1, At w b (o + 3) x.at_ f1 ∧ ∀ c ∈ f1, c ∈ fp := by
  obtain ⟨cs, hr, hc⟩ := h
  obtain ⟨rfl, rfl, hok⟩ := hc
  refine ⟨[], ⟨[I x.at_], fun j v hj => ?_, ⟨rfl, rfl, hok.2.2.2⟩⟩, by simp⟩
  have := hr (3 + j) v (by rcases j with _ | j <;> first | exact hj | simp at hj)
  rw [← this, Nat.add_assoc]
theorem At.Span_deed {w : World} {b o : Nat} {x : Span} {fp : List Nat} (h : At w b o x fp) : ∃ f1, At w b (o + 0) x.deed f1 ∧ ∀ c ∈ f1, c ∈ fp := by
  obtain ⟨cs, hr, hc⟩ := h
  obtain ⟨v1, f1, rfl, hok, h1, hfp⟩ := hc
  refine ⟨f1, ⟨[I x.deed.kind, I x.deed.run, I x.deed.plan.prio, I x.deed.plan.most, I x.deed.plan.wait, I x.deed.plan.tasks, v1, I x.deed.task, I x.deed.try_, I x.deed.worker, I x.deed.draw], fun j v hj => ?_, ⟨v1, f1, rfl, hok.1, h1, rfl⟩⟩, fun c hc => by rw [hfp]; first | (simp [hc]; done) | grind⟩
  have := hr (0 + j) v (by rcases j with _ | _ | _ | _ | _ | _ | _ | _ | _ | _ | _ | j <;> first | exact hj | simp at hj)
  rw [← this, Nat.add_assoc]
theorem At.Span_begin_ {w : World} {b o : Nat} {x : Span} {fp : List Nat} (h : At w b o x fp) : ∃ f1, At w b (o + 11) x.begin_ f1 ∧ ∀ c ∈ f1, c ∈ fp := by
  obtain ⟨cs, hr, hc⟩ := h
  obtain ⟨v1, f1, rfl, hok, h1, hfp⟩ := hc
  refine ⟨[], ⟨[I x.begin_], fun j v hj => ?_, ⟨rfl, rfl, hok.2.1⟩⟩, by simp⟩
  have := hr (11 + j) v (by rcases j with _ | j <;> first | exact hj | simp at hj)
  rw [← this, Nat.add_assoc]
theorem At.Span_end_ {w : World} {b o : Nat} {x : Span} {fp : List Nat} (h : At w b o x fp) : ∃ f1, At w b (o + 12) x.end_ f1 ∧ ∀ c ∈ f1, c ∈ fp := by
  obtain ⟨cs, hr, hc⟩ := h
  obtain ⟨v1, f1, rfl, hok, h1, hfp⟩ := hc
  refine ⟨[], ⟨[I x.end_], fun j v hj => ?_, ⟨rfl, rfl, hok.2.2.1⟩⟩, by simp⟩
  have := hr (12 + j) v (by rcases j with _ | j <;> first | exact hj | simp at hj)
  rw [← this, Nat.add_assoc]
theorem At.Span_reply {w : World} {b o : Nat} {x : Span} {fp : List Nat} (h : At w b o x fp) : ∃ f1, At w b (o + 13) x.reply f1 ∧ ∀ c ∈ f1, c ∈ fp := by
  obtain ⟨cs, hr, hc⟩ := h
  obtain ⟨v1, f1, rfl, hok, h1, hfp⟩ := hc
  refine ⟨[], ⟨[I x.reply.code, I x.reply.run, I x.reply.task, I x.reply.try_], fun j v hj => ?_, ⟨rfl, rfl, hok.2.2.2⟩⟩, by simp⟩
  have := hr (13 + j) v (by rcases j with _ | _ | _ | _ | j <;> first | exact hj | simp at hj)
  rw [← this, Nat.add_assoc]
theorem At.Crew_yard {w : World} {b o : Nat} {x : Crew} {fp : List Nat} (h : At w b o x fp) : ∃ f1, At w b (o + 0) x.yard f1 ∧ ∀ c ∈ f1, c ∈ fp := by
  obtain ⟨cs, hr, hc⟩ := h
  obtain ⟨v1, v2, v3, f1, f2, f3, rfl, hok, h1, h2, h3, hfp⟩ := hc
  refine ⟨f1 ++ (f2), ⟨[I x.yard.now, I x.yard.seq, v1, v2], fun j v hj => ?_, ⟨v1, v2, f1, f2, rfl, hok.1, h1, h2, rfl⟩⟩, fun c hc => by rw [hfp]; first | (simp [hc]; done) | grind⟩
  have := hr (0 + j) v (by rcases j with _ | _ | _ | _ | j <;> first | exact hj | simp at hj)
  rw [← this, Nat.add_assoc]
theorem At.Crew_holds {w : World} {b o : Nat} {x : Crew} {fp : List Nat} (h : At w b o x fp) : ∃ f1, At w b (o + 4) x.holds f1 ∧ ∀ c ∈ f1, c ∈ fp := by
  obtain ⟨cs, hr, hc⟩ := h
  obtain ⟨v1, v2, v3, f1, f2, f3, rfl, hok, h1, h2, h3, hfp⟩ := hc
  refine ⟨f3, ⟨[v3], fun j v hj => ?_, ⟨v3, rfl, h3⟩⟩, fun c hc => by rw [hfp]; first | (simp [hc]; done) | grind⟩
  have := hr (4 + j) v (by rcases j with _ | j <;> first | exact hj | simp at hj)
  rw [← this, Nat.add_assoc]
theorem At.Crew_turns {w : World} {b o : Nat} {x : Crew} {fp : List Nat} (h : At w b o x fp) : ∃ f1, At w b (o + 5) x.turns f1 ∧ ∀ c ∈ f1, c ∈ fp := by
  obtain ⟨cs, hr, hc⟩ := h
  obtain ⟨v1, v2, v3, f1, f2, f3, rfl, hok, h1, h2, h3, hfp⟩ := hc
  refine ⟨[], ⟨[I x.turns], fun j v hj => ?_, ⟨rfl, rfl, hok.2.1⟩⟩, by simp⟩
  have := hr (5 + j) v (by rcases j with _ | j <;> first | exact hj | simp at hj)
  rw [← this, Nat.add_assoc]
theorem At.Crew_did {w : World} {b o : Nat} {x : Crew} {fp : List Nat} (h : At w b o x fp) : ∃ f1, At w b (o + 6) x.did f1 ∧ ∀ c ∈ f1, c ∈ fp := by
  obtain ⟨cs, hr, hc⟩ := h
  obtain ⟨v1, v2, v3, f1, f2, f3, rfl, hok, h1, h2, h3, hfp⟩ := hc
  refine ⟨[], ⟨[I x.did], fun j v hj => ?_, ⟨rfl, rfl, hok.2.2⟩⟩, by simp⟩
  have := hr (6 + j) v (by rcases j with _ | j <;> first | exact hj | simp at hj)
  rw [← this, Nat.add_assoc]
theorem At.View_state {w : World} {b o : Nat} {x : View} {fp : List Nat} (h : At w b o x fp) : ∃ f1, At w b (o + 0) x.state f1 ∧ ∀ c ∈ f1, c ∈ fp := by
  obtain ⟨cs, hr, hc⟩ := h
  obtain ⟨rfl, rfl, hok⟩ := hc
  refine ⟨[], ⟨[I x.state], fun j v hj => ?_, ⟨rfl, rfl, hok.1⟩⟩, by simp⟩
  have := hr (0 + j) v (by rcases j with _ | j <;> first | exact hj | simp at hj)
  rw [← this, Nat.add_assoc]
theorem At.View_waits {w : World} {b o : Nat} {x : View} {fp : List Nat} (h : At w b o x fp) : ∃ f1, At w b (o + 1) x.waits f1 ∧ ∀ c ∈ f1, c ∈ fp := by
  obtain ⟨cs, hr, hc⟩ := h
  obtain ⟨rfl, rfl, hok⟩ := hc
  refine ⟨[], ⟨[I x.waits], fun j v hj => ?_, ⟨rfl, rfl, hok.2.1⟩⟩, by simp⟩
  have := hr (1 + j) v (by rcases j with _ | j <;> first | exact hj | simp at hj)
  rw [← this, Nat.add_assoc]
theorem At.View_ready {w : World} {b o : Nat} {x : View} {fp : List Nat} (h : At w b o x fp) : ∃ f1, At w b (o + 2) x.ready f1 ∧ ∀ c ∈ f1, c ∈ fp := by
  obtain ⟨cs, hr, hc⟩ := h
  obtain ⟨rfl, rfl, hok⟩ := hc
  refine ⟨[], ⟨[I x.ready], fun j v hj => ?_, ⟨rfl, rfl, hok.2.2.1⟩⟩, by simp⟩
  have := hr (2 + j) v (by rcases j with _ | j <;> first | exact hj | simp at hj)
  rw [← this, Nat.add_assoc]
theorem At.View_runs {w : World} {b o : Nat} {x : View} {fp : List Nat} (h : At w b o x fp) : ∃ f1, At w b (o + 3) x.runs f1 ∧ ∀ c ∈ f1, c ∈ fp := by
  obtain ⟨cs, hr, hc⟩ := h
  obtain ⟨rfl, rfl, hok⟩ := hc
  refine ⟨[], ⟨[I x.runs], fun j v hj => ?_, ⟨rfl, rfl, hok.2.2.2.1⟩⟩, by simp⟩
  have := hr (3 + j) v (by rcases j with _ | j <;> first | exact hj | simp at hj)
  rw [← this, Nat.add_assoc]
theorem At.View_done {w : World} {b o : Nat} {x : View} {fp : List Nat} (h : At w b o x fp) : ∃ f1, At w b (o + 4) x.done f1 ∧ ∀ c ∈ f1, c ∈ fp := by
  obtain ⟨cs, hr, hc⟩ := h
  obtain ⟨rfl, rfl, hok⟩ := hc
  refine ⟨[], ⟨[I x.done], fun j v hj => ?_, ⟨rfl, rfl, hok.2.2.2.2.1⟩⟩, by simp⟩
  have := hr (4 + j) v (by rcases j with _ | j <;> first | exact hj | simp at hj)
  rw [← this, Nat.add_assoc]
theorem At.View_failed {w : World} {b o : Nat} {x : View} {fp : List Nat} (h : At w b o x fp) : ∃ f1, At w b (o + 5) x.failed f1 ∧ ∀ c ∈ f1, c ∈ fp := by
  obtain ⟨cs, hr, hc⟩ := h
  obtain ⟨rfl, rfl, hok⟩ := hc
  refine ⟨[], ⟨[I x.failed], fun j v hj => ?_, ⟨rfl, rfl, hok.2.2.2.2.2.1⟩⟩, by simp⟩
  have := hr (5 + j) v (by rcases j with _ | j <;> first | exact hj | simp at hj)
  rw [← this, Nat.add_assoc]
theorem At.View_left {w : World} {b o : Nat} {x : View} {fp : List Nat} (h : At w b o x fp) : ∃ f1, At w b (o + 6) x.left f1 ∧ ∀ c ∈ f1, c ∈ fp := by
  obtain ⟨cs, hr, hc⟩ := h
  obtain ⟨rfl, rfl, hok⟩ := hc
  refine ⟨[], ⟨[I x.left], fun j v hj => ?_, ⟨rfl, rfl, hok.2.2.2.2.2.2⟩⟩, by simp⟩
  have := hr (6 + j) v (by rcases j with _ | j <;> first | exact hj | simp at hj)
  rw [← this, Nat.add_assoc]

/-! ### Structs of a call's own, opened and shut -/
theorem open_Plan {w0 W : World} {cs : List Value} {x : Plan} {fp : List Nat} {rs : List Res} (h : St w0 W (Res.own (.agg cs.toArray) x fp :: rs)) : ∃ (v1 : Value) (f1 : List Nat), cs = [I x.prio, I x.most, I x.wait, I x.tasks, v1] ∧ x.ok ∧ St w0 W (Res.own v1 x.edges f1 :: rs) := by
  have ho := h.get 0 rfl
  obtain ⟨v1, f1, rfl, hok, h1, rfl⟩ := own_C ho rfl
  have hw := ho.2
  have hn := h.nodup
  rw [List.flatMap_cons, List.nodup_append] at hn
  refine ⟨v1, fp, rfl, hok, St.trade (rs1 := [_]) (rs2 := [Res.own v1 x.edges fp]) h (by simpa [Res.own] using hn.1) (by simp [Res.own]) ?_⟩
  intro r hr
  simp only [List.mem_cons, List.not_mem_nil, or_false] at hr
  rcases hr with rfl
  · exact ⟨h1.v, fun b hb => hw b (by simp [hb])⟩
theorem shut_Plan {w0 W : World} {x : Plan} {v1 : Value} {f1 : List Nat} {rs : List Res} (h : St w0 W (Res.own v1 x.edges f1 :: rs)) (hok : x.ok) : St w0 W (Res.own (.agg #[I x.prio, I x.most, I x.wait, I x.tasks, v1]) x (f1) :: rs) := by
  have hn := h.sub (rs' := [Res.own v1 x.edges f1]) (by simp)
  refine St.trade (rs1 := [Res.own v1 x.edges f1]) (rs2 := [_]) h (by simpa [Res.own] using hn.nodup) (by simp [Res.own]) ?_
  intro r hr
  simp only [List.mem_singleton] at hr
  subst hr
  refine ⟨⟨[I x.prio, I x.most, I x.wait, I x.tasks, v1], rfl, v1, f1, rfl, hok, own_Sl (h.get 0 rfl), rfl⟩, ?_⟩
  intro b hb
  exact own_lt (h.get 0 rfl) b hb
theorem open_Run {w0 W : World} {cs : List Value} {x : Run} {fp : List Nat} {rs : List Res} (h : St w0 W (Res.own (.agg cs.toArray) x fp :: rs)) : ∃ (v1 v2 : Value) (f1 f2 : List Nat), cs = [I x.id, I x.plan.prio, I x.plan.most, I x.plan.wait, I x.plan.tasks, v1, I x.state, v2] ∧ x.ok ∧ St w0 W (Res.own v1 x.plan.edges f1 :: Res.own v2 x.tasks f2 :: rs) := by
  have ho := h.get 0 rfl
  obtain ⟨v1, v2, f1, f2, rfl, hok, h1, h2, rfl⟩ := own_C ho rfl
  have hw := ho.2
  have hn := h.nodup
  rw [List.flatMap_cons, List.nodup_append] at hn
  refine ⟨v1, v2, f1, f2, rfl, hok, St.trade (rs1 := [_]) (rs2 := [Res.own v1 x.plan.edges f1, Res.own v2 x.tasks f2]) h (by simpa [Res.own] using hn.1) (by simp [Res.own]) ?_⟩
  intro r hr
  simp only [List.mem_cons, List.not_mem_nil, or_false] at hr
  rcases hr with rfl | rfl
  · exact ⟨h1.v, fun b hb => hw b (by simp [hb])⟩
  · exact ⟨h2.v, fun b hb => hw b (by simp [hb])⟩
theorem shut_Run {w0 W : World} {x : Run} {v1 v2 : Value} {f1 f2 : List Nat} {rs : List Res} (h : St w0 W (Res.own v1 x.plan.edges f1 :: Res.own v2 x.tasks f2 :: rs)) (hok : x.ok) : St w0 W (Res.own (.agg #[I x.id, I x.plan.prio, I x.plan.most, I x.plan.wait, I x.plan.tasks, v1, I x.state, v2]) x (f1 ++ (f2)) :: rs) := by
  have hn := h.sub (rs' := [Res.own v1 x.plan.edges f1, Res.own v2 x.tasks f2]) (by simp)
  refine St.trade (rs1 := [Res.own v1 x.plan.edges f1, Res.own v2 x.tasks f2]) (rs2 := [_]) h (by simpa [Res.own] using hn.nodup) (by simp [Res.own]) ?_
  intro r hr
  simp only [List.mem_singleton] at hr
  subst hr
  refine ⟨⟨[I x.id, I x.plan.prio, I x.plan.most, I x.plan.wait, I x.plan.tasks, v1, I x.state, v2], rfl, v1, v2, f1, f2, rfl, hok, own_Sl (h.get 0 rfl), own_Sl (h.get 1 rfl), rfl⟩, ?_⟩
  intro b hb
  simp only [List.mem_append] at hb
  rcases hb with hb | hb
  · exact own_lt (h.get 0 rfl) b hb
  · exact own_lt (h.get 1 rfl) b hb
theorem open_Yard {w0 W : World} {cs : List Value} {x : Yard} {fp : List Nat} {rs : List Res} (h : St w0 W (Res.own (.agg cs.toArray) x fp :: rs)) : ∃ (v1 v2 : Value) (f1 f2 : List Nat), cs = [I x.now, I x.seq, v1, v2] ∧ x.ok ∧ St w0 W (Res.own v1 x.shelf f1 :: Res.own v2 x.runs f2 :: rs) := by
  have ho := h.get 0 rfl
  obtain ⟨v1, v2, f1, f2, rfl, hok, h1, h2, rfl⟩ := own_C ho rfl
  have hw := ho.2
  have hn := h.nodup
  rw [List.flatMap_cons, List.nodup_append] at hn
  refine ⟨v1, v2, f1, f2, rfl, hok, St.trade (rs1 := [_]) (rs2 := [Res.own v1 x.shelf f1, Res.own v2 x.runs f2]) h (by simpa [Res.own] using hn.1) (by simp [Res.own]) ?_⟩
  intro r hr
  simp only [List.mem_cons, List.not_mem_nil, or_false] at hr
  rcases hr with rfl | rfl
  · exact ⟨h1.v, fun b hb => hw b (by simp [hb])⟩
  · exact ⟨h2.v, fun b hb => hw b (by simp [hb])⟩
theorem shut_Yard {w0 W : World} {x : Yard} {v1 v2 : Value} {f1 f2 : List Nat} {rs : List Res} (h : St w0 W (Res.own v1 x.shelf f1 :: Res.own v2 x.runs f2 :: rs)) (hok : x.ok) : St w0 W (Res.own (.agg #[I x.now, I x.seq, v1, v2]) x (f1 ++ (f2)) :: rs) := by
  have hn := h.sub (rs' := [Res.own v1 x.shelf f1, Res.own v2 x.runs f2]) (by simp)
  refine St.trade (rs1 := [Res.own v1 x.shelf f1, Res.own v2 x.runs f2]) (rs2 := [_]) h (by simpa [Res.own] using hn.nodup) (by simp [Res.own]) ?_
  intro r hr
  simp only [List.mem_singleton] at hr
  subst hr
  refine ⟨⟨[I x.now, I x.seq, v1, v2], rfl, v1, v2, f1, f2, rfl, hok, own_Sl (h.get 0 rfl), own_Sl (h.get 1 rfl), rfl⟩, ?_⟩
  intro b hb
  simp only [List.mem_append] at hb
  rcases hb with hb | hb
  · exact own_lt (h.get 0 rfl) b hb
  · exact own_lt (h.get 1 rfl) b hb
theorem open_Deed {w0 W : World} {cs : List Value} {x : Deed} {fp : List Nat} {rs : List Res} (h : St w0 W (Res.own (.agg cs.toArray) x fp :: rs)) : ∃ (v1 : Value) (f1 : List Nat), cs = [I x.kind, I x.run, I x.plan.prio, I x.plan.most, I x.plan.wait, I x.plan.tasks, v1, I x.task, I x.try_, I x.worker, I x.draw] ∧ x.ok ∧ St w0 W (Res.own v1 x.plan.edges f1 :: rs) := by
  have ho := h.get 0 rfl
  obtain ⟨v1, f1, rfl, hok, h1, rfl⟩ := own_C ho rfl
  have hw := ho.2
  have hn := h.nodup
  rw [List.flatMap_cons, List.nodup_append] at hn
  refine ⟨v1, fp, rfl, hok, St.trade (rs1 := [_]) (rs2 := [Res.own v1 x.plan.edges fp]) h (by simpa [Res.own] using hn.1) (by simp [Res.own]) ?_⟩
  intro r hr
  simp only [List.mem_cons, List.not_mem_nil, or_false] at hr
  rcases hr with rfl
  · exact ⟨h1.v, fun b hb => hw b (by simp [hb])⟩
theorem shut_Deed {w0 W : World} {x : Deed} {v1 : Value} {f1 : List Nat} {rs : List Res} (h : St w0 W (Res.own v1 x.plan.edges f1 :: rs)) (hok : x.ok) : St w0 W (Res.own (.agg #[I x.kind, I x.run, I x.plan.prio, I x.plan.most, I x.plan.wait, I x.plan.tasks, v1, I x.task, I x.try_, I x.worker, I x.draw]) x (f1) :: rs) := by
  have hn := h.sub (rs' := [Res.own v1 x.plan.edges f1]) (by simp)
  refine St.trade (rs1 := [Res.own v1 x.plan.edges f1]) (rs2 := [_]) h (by simpa [Res.own] using hn.nodup) (by simp [Res.own]) ?_
  intro r hr
  simp only [List.mem_singleton] at hr
  subst hr
  refine ⟨⟨[I x.kind, I x.run, I x.plan.prio, I x.plan.most, I x.plan.wait, I x.plan.tasks, v1, I x.task, I x.try_, I x.worker, I x.draw], rfl, v1, f1, rfl, hok, own_Sl (h.get 0 rfl), rfl⟩, ?_⟩
  intro b hb
  exact own_lt (h.get 0 rfl) b hb
theorem open_Note {w0 W : World} {cs : List Value} {x : Note} {fp : List Nat} {rs : List Res} (h : St w0 W (Res.own (.agg cs.toArray) x fp :: rs)) : ∃ (v1 : Value) (f1 : List Nat), cs = [I x.seq, I x.deed.kind, I x.deed.run, I x.deed.plan.prio, I x.deed.plan.most, I x.deed.plan.wait, I x.deed.plan.tasks, v1, I x.deed.task, I x.deed.try_, I x.deed.worker, I x.deed.draw] ∧ x.ok ∧ St w0 W (Res.own v1 x.deed.plan.edges f1 :: rs) := by
  have ho := h.get 0 rfl
  obtain ⟨v1, f1, rfl, hok, h1, rfl⟩ := own_C ho rfl
  have hw := ho.2
  have hn := h.nodup
  rw [List.flatMap_cons, List.nodup_append] at hn
  refine ⟨v1, fp, rfl, hok, St.trade (rs1 := [_]) (rs2 := [Res.own v1 x.deed.plan.edges fp]) h (by simpa [Res.own] using hn.1) (by simp [Res.own]) ?_⟩
  intro r hr
  simp only [List.mem_cons, List.not_mem_nil, or_false] at hr
  rcases hr with rfl
  · exact ⟨h1.v, fun b hb => hw b (by simp [hb])⟩
theorem shut_Note {w0 W : World} {x : Note} {v1 : Value} {f1 : List Nat} {rs : List Res} (h : St w0 W (Res.own v1 x.deed.plan.edges f1 :: rs)) (hok : x.ok) : St w0 W (Res.own (.agg #[I x.seq, I x.deed.kind, I x.deed.run, I x.deed.plan.prio, I x.deed.plan.most, I x.deed.plan.wait, I x.deed.plan.tasks, v1, I x.deed.task, I x.deed.try_, I x.deed.worker, I x.deed.draw]) x (f1) :: rs) := by
  have hn := h.sub (rs' := [Res.own v1 x.deed.plan.edges f1]) (by simp)
  refine St.trade (rs1 := [Res.own v1 x.deed.plan.edges f1]) (rs2 := [_]) h (by simpa [Res.own] using hn.nodup) (by simp [Res.own]) ?_
  intro r hr
  simp only [List.mem_singleton] at hr
  subst hr
  refine ⟨⟨[I x.seq, I x.deed.kind, I x.deed.run, I x.deed.plan.prio, I x.deed.plan.most, I x.deed.plan.wait, I x.deed.plan.tasks, v1, I x.deed.task, I x.deed.try_, I x.deed.worker, I x.deed.draw], rfl, v1, f1, rfl, hok, own_Sl (h.get 0 rfl), rfl⟩, ?_⟩
  intro b hb
  exact own_lt (h.get 0 rfl) b hb
theorem open_Disk {w0 W : World} {cs : List Value} {x : Disk} {fp : List Nat} {rs : List Res} (h : St w0 W (Res.own (.agg cs.toArray) x fp :: rs)) : ∃ (v1 : Value) (f1 : List Nat), cs = [v1] ∧ x.ok ∧ St w0 W (Res.own v1 x.files f1 :: rs) := by
  have ho := h.get 0 rfl
  obtain ⟨v1, f1, rfl, hok, h1, rfl⟩ := own_C ho rfl
  have hw := ho.2
  have hn := h.nodup
  rw [List.flatMap_cons, List.nodup_append] at hn
  refine ⟨v1, fp, rfl, hok, St.trade (rs1 := [_]) (rs2 := [Res.own v1 x.files fp]) h (by simpa [Res.own] using hn.1) (by simp [Res.own]) ?_⟩
  intro r hr
  simp only [List.mem_cons, List.not_mem_nil, or_false] at hr
  rcases hr with rfl
  · exact ⟨h1.v, fun b hb => hw b (by simp [hb])⟩
theorem shut_Disk {w0 W : World} {x : Disk} {v1 : Value} {f1 : List Nat} {rs : List Res} (h : St w0 W (Res.own v1 x.files f1 :: rs)) (hok : x.ok) : St w0 W (Res.own (.agg #[v1]) x (f1) :: rs) := by
  have hn := h.sub (rs' := [Res.own v1 x.files f1]) (by simp)
  refine St.trade (rs1 := [Res.own v1 x.files f1]) (rs2 := [_]) h (by simpa [Res.own] using hn.nodup) (by simp [Res.own]) ?_
  intro r hr
  simp only [List.mem_singleton] at hr
  subst hr
  refine ⟨⟨[v1], rfl, v1, f1, rfl, hok, own_Sl (h.get 0 rfl), rfl⟩, ?_⟩
  intro b hb
  exact own_lt (h.get 0 rfl) b hb
theorem open_Engine {w0 W : World} {cs : List Value} {x : Engine} {fp : List Nat} {rs : List Res} (h : St w0 W (Res.own (.agg cs.toArray) x fp :: rs)) : ∃ (v1 v2 v3 v4 : Value) (f1 f2 f3 f4 : List Nat), cs = [I x.yard.now, I x.yard.seq, v1, v2, v3, I x.next, I x.calls, v4, I x.state, .bool x.broken] ∧ x.ok ∧ St w0 W (Res.own v1 x.yard.shelf f1 :: Res.own v2 x.yard.runs f2 :: Res.own v3 x.disk.files f3 :: Res.own v4 x.waits f4 :: rs) := by
  have ho := h.get 0 rfl
  obtain ⟨v1, v2, v3, v4, f1, f2, f3, f4, rfl, hok, h1, h2, h3, h4, rfl⟩ := own_C ho rfl
  have hw := ho.2
  have hn := h.nodup
  rw [List.flatMap_cons, List.nodup_append] at hn
  refine ⟨v1, v2, v3, v4, f1, f2, f3, f4, rfl, hok, St.trade (rs1 := [_]) (rs2 := [Res.own v1 x.yard.shelf f1, Res.own v2 x.yard.runs f2, Res.own v3 x.disk.files f3, Res.own v4 x.waits f4]) h (by simpa [Res.own] using hn.1) (by simp [Res.own]) ?_⟩
  intro r hr
  simp only [List.mem_cons, List.not_mem_nil, or_false] at hr
  rcases hr with rfl | rfl | rfl | rfl
  · exact ⟨h1.v, fun b hb => hw b (by simp [hb])⟩
  · exact ⟨h2.v, fun b hb => hw b (by simp [hb])⟩
  · exact ⟨h3.v, fun b hb => hw b (by simp [hb])⟩
  · exact ⟨h4.v, fun b hb => hw b (by simp [hb])⟩
theorem shut_Engine {w0 W : World} {x : Engine} {v1 v2 v3 v4 : Value} {f1 f2 f3 f4 : List Nat} {rs : List Res} (h : St w0 W (Res.own v1 x.yard.shelf f1 :: Res.own v2 x.yard.runs f2 :: Res.own v3 x.disk.files f3 :: Res.own v4 x.waits f4 :: rs)) (hok : x.ok) : St w0 W (Res.own (.agg #[I x.yard.now, I x.yard.seq, v1, v2, v3, I x.next, I x.calls, v4, I x.state, .bool x.broken]) x (f1 ++ (f2 ++ (f3 ++ (f4)))) :: rs) := by
  have hn := h.sub (rs' := [Res.own v1 x.yard.shelf f1, Res.own v2 x.yard.runs f2, Res.own v3 x.disk.files f3, Res.own v4 x.waits f4]) (by simp)
  refine St.trade (rs1 := [Res.own v1 x.yard.shelf f1, Res.own v2 x.yard.runs f2, Res.own v3 x.disk.files f3, Res.own v4 x.waits f4]) (rs2 := [_]) h (by simpa [Res.own] using hn.nodup) (by simp [Res.own]) ?_
  intro r hr
  simp only [List.mem_singleton] at hr
  subst hr
  refine ⟨⟨[I x.yard.now, I x.yard.seq, v1, v2, v3, I x.next, I x.calls, v4, I x.state, .bool x.broken], rfl, v1, v2, v3, v4, f1, f2, f3, f4, rfl, hok, own_Sl (h.get 0 rfl), own_Sl (h.get 1 rfl), own_Sl (h.get 2 rfl), own_Sl (h.get 3 rfl), rfl⟩, ?_⟩
  intro b hb
  simp only [List.mem_append] at hb
  rcases hb with hb | hb | hb | hb
  · exact own_lt (h.get 0 rfl) b hb
  · exact own_lt (h.get 1 rfl) b hb
  · exact own_lt (h.get 2 rfl) b hb
  · exact own_lt (h.get 3 rfl) b hb
theorem open_World {w0 W : World} {cs : List Value} {x : WorldD} {fp : List Nat} {rs : List Res} (h : St w0 W (Res.own (.agg cs.toArray) x fp :: rs)) : ∃ (v1 v2 v3 v4 v5 v6 : Value) (f1 f2 f3 f4 f5 f6 : List Nat), cs = [I x.engine.yard.now, I x.engine.yard.seq, v1, v2, v3, I x.engine.next, I x.engine.calls, v4, I x.engine.state, .bool x.engine.broken, v5, v6, I x.told, I x.fell] ∧ x.ok ∧ St w0 W (Res.own v1 x.engine.yard.shelf f1 :: Res.own v2 x.engine.yard.runs f2 :: Res.own v3 x.engine.disk.files f3 :: Res.own v4 x.engine.waits f4 :: Res.own v5 x.deeds f5 :: Res.own v6 x.replies f6 :: rs) := by
  have ho := h.get 0 rfl
  obtain ⟨v1, v2, v3, v4, v5, v6, f1, f2, f3, f4, f5, f6, rfl, hok, h1, h2, h3, h4, h5, h6, rfl⟩ := own_C ho rfl
  have hw := ho.2
  have hn := h.nodup
  rw [List.flatMap_cons, List.nodup_append] at hn
  refine ⟨v1, v2, v3, v4, v5, v6, f1, f2, f3, f4, f5, f6, rfl, hok, St.trade (rs1 := [_]) (rs2 := [Res.own v1 x.engine.yard.shelf f1, Res.own v2 x.engine.yard.runs f2, Res.own v3 x.engine.disk.files f3, Res.own v4 x.engine.waits f4, Res.own v5 x.deeds f5, Res.own v6 x.replies f6]) h (by simpa [Res.own] using hn.1) (by simp [Res.own]) ?_⟩
  intro r hr
  simp only [List.mem_cons, List.not_mem_nil, or_false] at hr
  rcases hr with rfl | rfl | rfl | rfl | rfl | rfl
  · exact ⟨h1.v, fun b hb => hw b (by simp [hb])⟩
  · exact ⟨h2.v, fun b hb => hw b (by simp [hb])⟩
  · exact ⟨h3.v, fun b hb => hw b (by simp [hb])⟩
  · exact ⟨h4.v, fun b hb => hw b (by simp [hb])⟩
  · exact ⟨h5.v, fun b hb => hw b (by simp [hb])⟩
  · exact ⟨h6.v, fun b hb => hw b (by simp [hb])⟩
theorem shut_World {w0 W : World} {x : WorldD} {v1 v2 v3 v4 v5 v6 : Value} {f1 f2 f3 f4 f5 f6 : List Nat} {rs : List Res} (h : St w0 W (Res.own v1 x.engine.yard.shelf f1 :: Res.own v2 x.engine.yard.runs f2 :: Res.own v3 x.engine.disk.files f3 :: Res.own v4 x.engine.waits f4 :: Res.own v5 x.deeds f5 :: Res.own v6 x.replies f6 :: rs)) (hok : x.ok) : St w0 W (Res.own (.agg #[I x.engine.yard.now, I x.engine.yard.seq, v1, v2, v3, I x.engine.next, I x.engine.calls, v4, I x.engine.state, .bool x.engine.broken, v5, v6, I x.told, I x.fell]) x (f1 ++ (f2 ++ (f3 ++ (f4 ++ (f5 ++ (f6)))))) :: rs) := by
  have hn := h.sub (rs' := [Res.own v1 x.engine.yard.shelf f1, Res.own v2 x.engine.yard.runs f2, Res.own v3 x.engine.disk.files f3, Res.own v4 x.engine.waits f4, Res.own v5 x.deeds f5, Res.own v6 x.replies f6]) (by simp)
  refine St.trade (rs1 := [Res.own v1 x.engine.yard.shelf f1, Res.own v2 x.engine.yard.runs f2, Res.own v3 x.engine.disk.files f3, Res.own v4 x.engine.waits f4, Res.own v5 x.deeds f5, Res.own v6 x.replies f6]) (rs2 := [_]) h (by simpa [Res.own] using hn.nodup) (by simp [Res.own]) ?_
  intro r hr
  simp only [List.mem_singleton] at hr
  subst hr
  refine ⟨⟨[I x.engine.yard.now, I x.engine.yard.seq, v1, v2, v3, I x.engine.next, I x.engine.calls, v4, I x.engine.state, .bool x.engine.broken, v5, v6, I x.told, I x.fell], rfl, v1, v2, v3, v4, v5, v6, f1, f2, f3, f4, f5, f6, rfl, hok, own_Sl (h.get 0 rfl), own_Sl (h.get 1 rfl), own_Sl (h.get 2 rfl), own_Sl (h.get 3 rfl), own_Sl (h.get 4 rfl), own_Sl (h.get 5 rfl), rfl⟩, ?_⟩
  intro b hb
  simp only [List.mem_append] at hb
  rcases hb with hb | hb | hb | hb | hb | hb
  · exact own_lt (h.get 0 rfl) b hb
  · exact own_lt (h.get 1 rfl) b hb
  · exact own_lt (h.get 2 rfl) b hb
  · exact own_lt (h.get 3 rfl) b hb
  · exact own_lt (h.get 4 rfl) b hb
  · exact own_lt (h.get 5 rfl) b hb
theorem open_Act {w0 W : World} {cs : List Value} {x : ActD} {fp : List Nat} {rs : List Res} (h : St w0 W (Res.own (.agg cs.toArray) x fp :: rs)) : ∃ (v1 v2 : Value) (f1 f2 : List Nat), cs = [I x.kind, I x.deed.kind, I x.deed.run, I x.deed.plan.prio, I x.deed.plan.most, I x.deed.plan.wait, I x.deed.plan.tasks, v1, I x.deed.task, I x.deed.try_, I x.deed.worker, I x.deed.draw, I x.n, v2] ∧ x.ok ∧ St w0 W (Res.own v1 x.deed.plan.edges f1 :: Res.own v2 x.keep f2 :: rs) := by
  have ho := h.get 0 rfl
  obtain ⟨v1, v2, f1, f2, rfl, hok, h1, h2, rfl⟩ := own_C ho rfl
  have hw := ho.2
  have hn := h.nodup
  rw [List.flatMap_cons, List.nodup_append] at hn
  refine ⟨v1, v2, f1, f2, rfl, hok, St.trade (rs1 := [_]) (rs2 := [Res.own v1 x.deed.plan.edges f1, Res.own v2 x.keep f2]) h (by simpa [Res.own] using hn.1) (by simp [Res.own]) ?_⟩
  intro r hr
  simp only [List.mem_cons, List.not_mem_nil, or_false] at hr
  rcases hr with rfl | rfl
  · exact ⟨h1.v, fun b hb => hw b (by simp [hb])⟩
  · exact ⟨h2.v, fun b hb => hw b (by simp [hb])⟩
theorem shut_Act {w0 W : World} {x : ActD} {v1 v2 : Value} {f1 f2 : List Nat} {rs : List Res} (h : St w0 W (Res.own v1 x.deed.plan.edges f1 :: Res.own v2 x.keep f2 :: rs)) (hok : x.ok) : St w0 W (Res.own (.agg #[I x.kind, I x.deed.kind, I x.deed.run, I x.deed.plan.prio, I x.deed.plan.most, I x.deed.plan.wait, I x.deed.plan.tasks, v1, I x.deed.task, I x.deed.try_, I x.deed.worker, I x.deed.draw, I x.n, v2]) x (f1 ++ (f2)) :: rs) := by
  have hn := h.sub (rs' := [Res.own v1 x.deed.plan.edges f1, Res.own v2 x.keep f2]) (by simp)
  refine St.trade (rs1 := [Res.own v1 x.deed.plan.edges f1, Res.own v2 x.keep f2]) (rs2 := [_]) h (by simpa [Res.own] using hn.nodup) (by simp [Res.own]) ?_
  intro r hr
  simp only [List.mem_singleton] at hr
  subst hr
  refine ⟨⟨[I x.kind, I x.deed.kind, I x.deed.run, I x.deed.plan.prio, I x.deed.plan.most, I x.deed.plan.wait, I x.deed.plan.tasks, v1, I x.deed.task, I x.deed.try_, I x.deed.worker, I x.deed.draw, I x.n, v2], rfl, v1, v2, f1, f2, rfl, hok, own_Sl (h.get 0 rfl), own_Sl (h.get 1 rfl), rfl⟩, ?_⟩
  intro b hb
  simp only [List.mem_append] at hb
  rcases hb with hb | hb
  · exact own_lt (h.get 0 rfl) b hb
  · exact own_lt (h.get 1 rfl) b hb
theorem open_Span {w0 W : World} {cs : List Value} {x : Span} {fp : List Nat} {rs : List Res} (h : St w0 W (Res.own (.agg cs.toArray) x fp :: rs)) : ∃ (v1 : Value) (f1 : List Nat), cs = [I x.deed.kind, I x.deed.run, I x.deed.plan.prio, I x.deed.plan.most, I x.deed.plan.wait, I x.deed.plan.tasks, v1, I x.deed.task, I x.deed.try_, I x.deed.worker, I x.deed.draw, I x.begin_, I x.end_, I x.reply.code, I x.reply.run, I x.reply.task, I x.reply.try_] ∧ x.ok ∧ St w0 W (Res.own v1 x.deed.plan.edges f1 :: rs) := by
  have ho := h.get 0 rfl
  obtain ⟨v1, f1, rfl, hok, h1, rfl⟩ := own_C ho rfl
  have hw := ho.2
  have hn := h.nodup
  rw [List.flatMap_cons, List.nodup_append] at hn
  refine ⟨v1, fp, rfl, hok, St.trade (rs1 := [_]) (rs2 := [Res.own v1 x.deed.plan.edges fp]) h (by simpa [Res.own] using hn.1) (by simp [Res.own]) ?_⟩
  intro r hr
  simp only [List.mem_cons, List.not_mem_nil, or_false] at hr
  rcases hr with rfl
  · exact ⟨h1.v, fun b hb => hw b (by simp [hb])⟩
theorem shut_Span {w0 W : World} {x : Span} {v1 : Value} {f1 : List Nat} {rs : List Res} (h : St w0 W (Res.own v1 x.deed.plan.edges f1 :: rs)) (hok : x.ok) : St w0 W (Res.own (.agg #[I x.deed.kind, I x.deed.run, I x.deed.plan.prio, I x.deed.plan.most, I x.deed.plan.wait, I x.deed.plan.tasks, v1, I x.deed.task, I x.deed.try_, I x.deed.worker, I x.deed.draw, I x.begin_, I x.end_, I x.reply.code, I x.reply.run, I x.reply.task, I x.reply.try_]) x (f1) :: rs) := by
  have hn := h.sub (rs' := [Res.own v1 x.deed.plan.edges f1]) (by simp)
  refine St.trade (rs1 := [Res.own v1 x.deed.plan.edges f1]) (rs2 := [_]) h (by simpa [Res.own] using hn.nodup) (by simp [Res.own]) ?_
  intro r hr
  simp only [List.mem_singleton] at hr
  subst hr
  refine ⟨⟨[I x.deed.kind, I x.deed.run, I x.deed.plan.prio, I x.deed.plan.most, I x.deed.plan.wait, I x.deed.plan.tasks, v1, I x.deed.task, I x.deed.try_, I x.deed.worker, I x.deed.draw, I x.begin_, I x.end_, I x.reply.code, I x.reply.run, I x.reply.task, I x.reply.try_], rfl, v1, f1, rfl, hok, own_Sl (h.get 0 rfl), rfl⟩, ?_⟩
  intro b hb
  exact own_lt (h.get 0 rfl) b hb
theorem open_Crew {w0 W : World} {cs : List Value} {x : Crew} {fp : List Nat} {rs : List Res} (h : St w0 W (Res.own (.agg cs.toArray) x fp :: rs)) : ∃ (v1 v2 v3 : Value) (f1 f2 f3 : List Nat), cs = [I x.yard.now, I x.yard.seq, v1, v2, v3, I x.turns, I x.did] ∧ x.ok ∧ St w0 W (Res.own v1 x.yard.shelf f1 :: Res.own v2 x.yard.runs f2 :: Res.own v3 x.holds f3 :: rs) := by
  have ho := h.get 0 rfl
  obtain ⟨v1, v2, v3, f1, f2, f3, rfl, hok, h1, h2, h3, rfl⟩ := own_C ho rfl
  have hw := ho.2
  have hn := h.nodup
  rw [List.flatMap_cons, List.nodup_append] at hn
  refine ⟨v1, v2, v3, f1, f2, f3, rfl, hok, St.trade (rs1 := [_]) (rs2 := [Res.own v1 x.yard.shelf f1, Res.own v2 x.yard.runs f2, Res.own v3 x.holds f3]) h (by simpa [Res.own] using hn.1) (by simp [Res.own]) ?_⟩
  intro r hr
  simp only [List.mem_cons, List.not_mem_nil, or_false] at hr
  rcases hr with rfl | rfl | rfl
  · exact ⟨h1.v, fun b hb => hw b (by simp [hb])⟩
  · exact ⟨h2.v, fun b hb => hw b (by simp [hb])⟩
  · exact ⟨h3.v, fun b hb => hw b (by simp [hb])⟩
theorem shut_Crew {w0 W : World} {x : Crew} {v1 v2 v3 : Value} {f1 f2 f3 : List Nat} {rs : List Res} (h : St w0 W (Res.own v1 x.yard.shelf f1 :: Res.own v2 x.yard.runs f2 :: Res.own v3 x.holds f3 :: rs)) (hok : x.ok) : St w0 W (Res.own (.agg #[I x.yard.now, I x.yard.seq, v1, v2, v3, I x.turns, I x.did]) x (f1 ++ (f2 ++ (f3))) :: rs) := by
  have hn := h.sub (rs' := [Res.own v1 x.yard.shelf f1, Res.own v2 x.yard.runs f2, Res.own v3 x.holds f3]) (by simp)
  refine St.trade (rs1 := [Res.own v1 x.yard.shelf f1, Res.own v2 x.yard.runs f2, Res.own v3 x.holds f3]) (rs2 := [_]) h (by simpa [Res.own] using hn.nodup) (by simp [Res.own]) ?_
  intro r hr
  simp only [List.mem_singleton] at hr
  subst hr
  refine ⟨⟨[I x.yard.now, I x.yard.seq, v1, v2, v3, I x.turns, I x.did], rfl, v1, v2, v3, f1, f2, f3, rfl, hok, own_Sl (h.get 0 rfl), own_Sl (h.get 1 rfl), own_Sl (h.get 2 rfl), rfl⟩, ?_⟩
  intro b hb
  simp only [List.mem_append] at hb
  rcases hb with hb | hb | hb
  · exact own_lt (h.get 0 rfl) b hb
  · exact own_lt (h.get 1 rfl) b hb
  · exact own_lt (h.get 2 rfl) b hb
end Go.Proofs.YtchnllpegfbleaaDoor
