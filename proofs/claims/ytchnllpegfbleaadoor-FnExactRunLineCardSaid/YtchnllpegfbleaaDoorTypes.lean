/-
  The data of the program, and how it lies in memory: a number, a text and a flag a cell each, a slice one cell that leads to its row. (Printed by a program of this project's: wip/gentypes.py.)
-/
import Derived.Test.YtchnllpegfbleaaDoorBase
namespace Go.Proofs.YtchnllpegfbleaaDoor
set_option linter.unusedSimpArgs false
set_option linter.unusedVariables false
set_option maxRecDepth 100000
open Go.RowKit

structure Edge where
  from_ : Int
  to_ : Int
  deriving DecidableEq
def Edge.ok (x : Edge) : Prop := I64 x.from_ ∧ I64 x.to_
def Edge.cells (x : Edge) : List Value := [I x.from_, I x.to_]
instance : Shape Edge := Shape.flat 2 Edge.cells Edge.ok (fun _ => rfl) (fun _ v hv => by simp [Edge.cells] at hv; rcases hv with rfl | rfl <;> rfl)
theorem size_Edge : Shape.size Edge = 2 := rfl

structure Plan where
  prio : Int
  most : Int
  wait : Int
  tasks : Int
  edges : List Edge
  deriving DecidableEq
def Plan.ok (x : Plan) : Prop := I64 x.prio ∧ I64 x.most ∧ I64 x.wait ∧ I64 x.tasks
instance : Shape Plan where
  size := 5
  C := fun w cs x fp => ∃ (v1 : Value) (f1 : List Nat), cs = [I x.prio, I x.most, I x.wait, I x.tasks, v1] ∧ x.ok ∧ Sl w v1 x.edges f1 ∧ fp = f1
  len := fun ⟨v1, f1, h, hok, h1, hfp⟩ => by rw [h]; rfl
  loc := fun hs hk ⟨v1, f1, h, hok, h1, hfp⟩ => ⟨v1, f1, h, hok, h1.loc (fun b hb => hk b (by rw [hfp]; simp [hb])) hs, hfp⟩
  one := fun ⟨v1, f1, h, hok, h1, hfp⟩ u hu => by
    obtain ⟨ao0, cap0, rfl, _⟩ := h1
    subst h
    simp at hu
    rcases hu with rfl | rfl | rfl | rfl | rfl <;> rfl
  lt := fun ⟨v1, f1, h, hok, h1, hfp⟩ b hb => by
    subst hfp
    exact h1.lt b hb
theorem size_Plan : Shape.size Plan = 5 := rfl

structure Entry where
  prio : Int
  seq : Int
  run : Int
  task : Int
  deriving DecidableEq
def Entry.ok (x : Entry) : Prop := I64 x.prio ∧ I64 x.seq ∧ I64 x.run ∧ I64 x.task
def Entry.cells (x : Entry) : List Value := [I x.prio, I x.seq, I x.run, I x.task]
instance : Shape Entry := Shape.flat 4 Entry.cells Entry.ok (fun _ => rfl) (fun _ v hv => by simp [Entry.cells] at hv; rcases hv with rfl | rfl | rfl | rfl <;> rfl)
theorem size_Entry : Shape.size Entry = 4 := rfl

structure Task where
  state : Int
  need : Int
  try_ : Int
  until_ : Int
  deriving DecidableEq
def Task.ok (x : Task) : Prop := I64 x.state ∧ I64 x.need ∧ I64 x.try_ ∧ I64 x.until_
def Task.cells (x : Task) : List Value := [I x.state, I x.need, I x.try_, I x.until_]
instance : Shape Task := Shape.flat 4 Task.cells Task.ok (fun _ => rfl) (fun _ v hv => by simp [Task.cells] at hv; rcases hv with rfl | rfl | rfl | rfl <;> rfl)
theorem size_Task : Shape.size Task = 4 := rfl

structure Run where
  id : Int
  plan : Plan
  state : Int
  tasks : List Task
  deriving DecidableEq
def Run.ok (x : Run) : Prop := I64 x.id ∧ x.plan.ok ∧ I64 x.state
instance : Shape Run where
  size := 8
  C := fun w cs x fp => ∃ (v1 v2 : Value) (f1 f2 : List Nat), cs = [I x.id, I x.plan.prio, I x.plan.most, I x.plan.wait, I x.plan.tasks, v1, I x.state, v2] ∧ x.ok ∧ Sl w v1 x.plan.edges f1 ∧ Sl w v2 x.tasks f2 ∧ fp = f1 ++ (f2)
  len := fun ⟨v1, v2, f1, f2, h, hok, h1, h2, hfp⟩ => by rw [h]; rfl
  loc := fun hs hk ⟨v1, v2, f1, f2, h, hok, h1, h2, hfp⟩ => ⟨v1, v2, f1, f2, h, hok, h1.loc (fun b hb => hk b (by rw [hfp]; simp [hb])) hs, h2.loc (fun b hb => hk b (by rw [hfp]; simp [hb])) hs, hfp⟩
  one := fun ⟨v1, v2, f1, f2, h, hok, h1, h2, hfp⟩ u hu => by
    obtain ⟨ao0, cap0, rfl, _⟩ := h1
    obtain ⟨ao1, cap1, rfl, _⟩ := h2
    subst h
    simp at hu
    rcases hu with rfl | rfl | rfl | rfl | rfl | rfl | rfl | rfl <;> rfl
  lt := fun ⟨v1, v2, f1, f2, h, hok, h1, h2, hfp⟩ b hb => by
    subst hfp
    simp only [List.mem_append] at hb
    rcases hb with hb | hb
    · exact h1.lt b hb
    · exact h2.lt b hb
theorem size_Run : Shape.size Run = 8 := rfl

structure Yard where
  now : Int
  seq : Int
  shelf : List (List Entry)
  runs : List Run
  deriving DecidableEq
def Yard.ok (x : Yard) : Prop := I64 x.now ∧ I64 x.seq
instance : Shape Yard where
  size := 4
  C := fun w cs x fp => ∃ (v1 v2 : Value) (f1 f2 : List Nat), cs = [I x.now, I x.seq, v1, v2] ∧ x.ok ∧ Sl w v1 x.shelf f1 ∧ Sl w v2 x.runs f2 ∧ fp = f1 ++ (f2)
  len := fun ⟨v1, v2, f1, f2, h, hok, h1, h2, hfp⟩ => by rw [h]; rfl
  loc := fun hs hk ⟨v1, v2, f1, f2, h, hok, h1, h2, hfp⟩ => ⟨v1, v2, f1, f2, h, hok, h1.loc (fun b hb => hk b (by rw [hfp]; simp [hb])) hs, h2.loc (fun b hb => hk b (by rw [hfp]; simp [hb])) hs, hfp⟩
  one := fun ⟨v1, v2, f1, f2, h, hok, h1, h2, hfp⟩ u hu => by
    obtain ⟨ao0, cap0, rfl, _⟩ := h1
    obtain ⟨ao1, cap1, rfl, _⟩ := h2
    subst h
    simp at hu
    rcases hu with rfl | rfl | rfl | rfl <;> rfl
  lt := fun ⟨v1, v2, f1, f2, h, hok, h1, h2, hfp⟩ b hb => by
    subst hfp
    simp only [List.mem_append] at hb
    rcases hb with hb | hb
    · exact h1.lt b hb
    · exact h2.lt b hb
theorem size_Yard : Shape.size Yard = 4 := rfl

structure Reply where
  code : Int
  run : Int
  task : Int
  try_ : Int
  deriving DecidableEq
def Reply.ok (x : Reply) : Prop := I64 x.code ∧ I64 x.run ∧ I64 x.task ∧ I64 x.try_
def Reply.cells (x : Reply) : List Value := [I x.code, I x.run, I x.task, I x.try_]
instance : Shape Reply := Shape.flat 4 Reply.cells Reply.ok (fun _ => rfl) (fun _ v hv => by simp [Reply.cells] at hv; rcases hv with rfl | rfl | rfl | rfl <;> rfl)
theorem size_Reply : Shape.size Reply = 4 := rfl

structure Deed where
  kind : Int
  run : Int
  plan : Plan
  task : Int
  try_ : Int
  worker : Int
  draw : Int
  deriving DecidableEq
def Deed.ok (x : Deed) : Prop := I64 x.kind ∧ I64 x.run ∧ x.plan.ok ∧ I64 x.task ∧ I64 x.try_ ∧ I64 x.worker ∧ I64 x.draw
instance : Shape Deed where
  size := 11
  C := fun w cs x fp => ∃ (v1 : Value) (f1 : List Nat), cs = [I x.kind, I x.run, I x.plan.prio, I x.plan.most, I x.plan.wait, I x.plan.tasks, v1, I x.task, I x.try_, I x.worker, I x.draw] ∧ x.ok ∧ Sl w v1 x.plan.edges f1 ∧ fp = f1
  len := fun ⟨v1, f1, h, hok, h1, hfp⟩ => by rw [h]; rfl
  loc := fun hs hk ⟨v1, f1, h, hok, h1, hfp⟩ => ⟨v1, f1, h, hok, h1.loc (fun b hb => hk b (by rw [hfp]; simp [hb])) hs, hfp⟩
  one := fun ⟨v1, f1, h, hok, h1, hfp⟩ u hu => by
    obtain ⟨ao0, cap0, rfl, _⟩ := h1
    subst h
    simp at hu
    rcases hu with rfl | rfl | rfl | rfl | rfl | rfl | rfl | rfl | rfl | rfl | rfl <;> rfl
  lt := fun ⟨v1, f1, h, hok, h1, hfp⟩ b hb => by
    subst hfp
    exact h1.lt b hb
theorem size_Deed : Shape.size Deed = 11 := rfl

structure Note where
  seq : Int
  deed : Deed
  deriving DecidableEq
def Note.ok (x : Note) : Prop := I64 x.seq ∧ x.deed.ok
instance : Shape Note where
  size := 12
  C := fun w cs x fp => ∃ (v1 : Value) (f1 : List Nat), cs = [I x.seq, I x.deed.kind, I x.deed.run, I x.deed.plan.prio, I x.deed.plan.most, I x.deed.plan.wait, I x.deed.plan.tasks, v1, I x.deed.task, I x.deed.try_, I x.deed.worker, I x.deed.draw] ∧ x.ok ∧ Sl w v1 x.deed.plan.edges f1 ∧ fp = f1
  len := fun ⟨v1, f1, h, hok, h1, hfp⟩ => by rw [h]; rfl
  loc := fun hs hk ⟨v1, f1, h, hok, h1, hfp⟩ => ⟨v1, f1, h, hok, h1.loc (fun b hb => hk b (by rw [hfp]; simp [hb])) hs, hfp⟩
  one := fun ⟨v1, f1, h, hok, h1, hfp⟩ u hu => by
    obtain ⟨ao0, cap0, rfl, _⟩ := h1
    subst h
    simp at hu
    rcases hu with rfl | rfl | rfl | rfl | rfl | rfl | rfl | rfl | rfl | rfl | rfl | rfl <;> rfl
  lt := fun ⟨v1, f1, h, hok, h1, hfp⟩ b hb => by
    subst hfp
    exact h1.lt b hb
theorem size_Note : Shape.size Note = 12 := rfl

structure Wait where
  call : Int
  reply : Reply
  deriving DecidableEq
def Wait.ok (x : Wait) : Prop := I64 x.call ∧ x.reply.ok
def Wait.cells (x : Wait) : List Value := [I x.call, I x.reply.code, I x.reply.run, I x.reply.task, I x.reply.try_]
instance : Shape Wait := Shape.flat 5 Wait.cells Wait.ok (fun _ => rfl) (fun _ v hv => by simp [Wait.cells] at hv; rcases hv with rfl | rfl | rfl | rfl | rfl <;> rfl)
theorem size_Wait : Shape.size Wait = 5 := rfl

structure File where
  name : ByteArray
  data : ByteArray
  safe : Int
  deriving DecidableEq
def File.ok (x : File) : Prop := x.name.size ≤ maxLen ∧ x.data.size ≤ maxLen ∧ I64 x.safe
def File.cells (x : File) : List Value := [.string x.name, .string x.data, I x.safe]
instance : Shape File := Shape.flat 3 File.cells File.ok (fun _ => rfl) (fun _ v hv => by simp [File.cells] at hv; rcases hv with rfl | rfl | rfl <;> rfl)
theorem size_File : Shape.size File = 3 := rfl

structure Disk where
  files : List File
  deriving DecidableEq
def Disk.ok (x : Disk) : Prop := True
instance : Shape Disk where
  size := 1
  C := fun w cs x fp => ∃ (v1 : Value) (f1 : List Nat), cs = [v1] ∧ x.ok ∧ Sl w v1 x.files f1 ∧ fp = f1
  len := fun ⟨v1, f1, h, hok, h1, hfp⟩ => by rw [h]; rfl
  loc := fun hs hk ⟨v1, f1, h, hok, h1, hfp⟩ => ⟨v1, f1, h, hok, h1.loc (fun b hb => hk b (by rw [hfp]; simp [hb])) hs, hfp⟩
  one := fun ⟨v1, f1, h, hok, h1, hfp⟩ u hu => by
    obtain ⟨ao0, cap0, rfl, _⟩ := h1
    subst h
    simp at hu
    rcases hu with rfl <;> rfl
  lt := fun ⟨v1, f1, h, hok, h1, hfp⟩ b hb => by
    subst hfp
    exact h1.lt b hb
theorem size_Disk : Shape.size Disk = 1 := rfl

structure Engine where
  yard : Yard
  disk : Disk
  next : Int
  calls : Int
  waits : List Wait
  state : Int
  broken : Bool
  deriving DecidableEq
def Engine.ok (x : Engine) : Prop := x.yard.ok ∧ I64 x.next ∧ I64 x.calls ∧ I64 x.state
instance : Shape Engine where
  size := 10
  C := fun w cs x fp => ∃ (v1 v2 v3 v4 : Value) (f1 f2 f3 f4 : List Nat), cs = [I x.yard.now, I x.yard.seq, v1, v2, v3, I x.next, I x.calls, v4, I x.state, .bool x.broken] ∧ x.ok ∧ Sl w v1 x.yard.shelf f1 ∧ Sl w v2 x.yard.runs f2 ∧ Sl w v3 x.disk.files f3 ∧ Sl w v4 x.waits f4 ∧ fp = f1 ++ (f2 ++ (f3 ++ (f4)))
  len := fun ⟨v1, v2, v3, v4, f1, f2, f3, f4, h, hok, h1, h2, h3, h4, hfp⟩ => by rw [h]; rfl
  loc := fun hs hk ⟨v1, v2, v3, v4, f1, f2, f3, f4, h, hok, h1, h2, h3, h4, hfp⟩ => ⟨v1, v2, v3, v4, f1, f2, f3, f4, h, hok, h1.loc (fun b hb => hk b (by rw [hfp]; simp [hb])) hs, h2.loc (fun b hb => hk b (by rw [hfp]; simp [hb])) hs, h3.loc (fun b hb => hk b (by rw [hfp]; simp [hb])) hs, h4.loc (fun b hb => hk b (by rw [hfp]; simp [hb])) hs, hfp⟩
  one := fun ⟨v1, v2, v3, v4, f1, f2, f3, f4, h, hok, h1, h2, h3, h4, hfp⟩ u hu => by
    obtain ⟨ao0, cap0, rfl, _⟩ := h1
    obtain ⟨ao1, cap1, rfl, _⟩ := h2
    obtain ⟨ao2, cap2, rfl, _⟩ := h3
    obtain ⟨ao3, cap3, rfl, _⟩ := h4
    subst h
    simp at hu
    rcases hu with rfl | rfl | rfl | rfl | rfl | rfl | rfl | rfl | rfl | rfl <;> rfl
  lt := fun ⟨v1, v2, v3, v4, f1, f2, f3, f4, h, hok, h1, h2, h3, h4, hfp⟩ b hb => by
    subst hfp
    simp only [List.mem_append] at hb
    rcases hb with hb | hb | hb | hb
    · exact h1.lt b hb
    · exact h2.lt b hb
    · exact h3.lt b hb
    · exact h4.lt b hb
theorem size_Engine : Shape.size Engine = 10 := rfl

structure WorldD where
  engine : Engine
  deeds : List Deed
  replies : List Reply
  told : Int
  fell : Int
  deriving DecidableEq
def WorldD.ok (x : WorldD) : Prop := x.engine.ok ∧ I64 x.told ∧ I64 x.fell
instance : Shape WorldD where
  size := 14
  C := fun w cs x fp => ∃ (v1 v2 v3 v4 v5 v6 : Value) (f1 f2 f3 f4 f5 f6 : List Nat), cs = [I x.engine.yard.now, I x.engine.yard.seq, v1, v2, v3, I x.engine.next, I x.engine.calls, v4, I x.engine.state, .bool x.engine.broken, v5, v6, I x.told, I x.fell] ∧ x.ok ∧ Sl w v1 x.engine.yard.shelf f1 ∧ Sl w v2 x.engine.yard.runs f2 ∧ Sl w v3 x.engine.disk.files f3 ∧ Sl w v4 x.engine.waits f4 ∧ Sl w v5 x.deeds f5 ∧ Sl w v6 x.replies f6 ∧ fp = f1 ++ (f2 ++ (f3 ++ (f4 ++ (f5 ++ (f6)))))
  len := fun ⟨v1, v2, v3, v4, v5, v6, f1, f2, f3, f4, f5, f6, h, hok, h1, h2, h3, h4, h5, h6, hfp⟩ => by rw [h]; rfl
  loc := fun hs hk ⟨v1, v2, v3, v4, v5, v6, f1, f2, f3, f4, f5, f6, h, hok, h1, h2, h3, h4, h5, h6, hfp⟩ => ⟨v1, v2, v3, v4, v5, v6, f1, f2, f3, f4, f5, f6, h, hok, h1.loc (fun b hb => hk b (by rw [hfp]; simp [hb])) hs, h2.loc (fun b hb => hk b (by rw [hfp]; simp [hb])) hs, h3.loc (fun b hb => hk b (by rw [hfp]; simp [hb])) hs, h4.loc (fun b hb => hk b (by rw [hfp]; simp [hb])) hs, h5.loc (fun b hb => hk b (by rw [hfp]; simp [hb])) hs, h6.loc (fun b hb => hk b (by rw [hfp]; simp [hb])) hs, hfp⟩
  one := fun ⟨v1, v2, v3, v4, v5, v6, f1, f2, f3, f4, f5, f6, h, hok, h1, h2, h3, h4, h5, h6, hfp⟩ u hu => by
    obtain ⟨ao0, cap0, rfl, _⟩ := h1
    obtain ⟨ao1, cap1, rfl, _⟩ := h2
    obtain ⟨ao2, cap2, rfl, _⟩ := h3
    obtain ⟨ao3, cap3, rfl, _⟩ := h4
    obtain ⟨ao4, cap4, rfl, _⟩ := h5
    obtain ⟨ao5, cap5, rfl, _⟩ := h6
    subst h
    simp at hu
    rcases hu with rfl | rfl | rfl | rfl | rfl | rfl | rfl | rfl | rfl | rfl | rfl | rfl | rfl | rfl <;> rfl
  lt := fun ⟨v1, v2, v3, v4, v5, v6, f1, f2, f3, f4, f5, f6, h, hok, h1, h2, h3, h4, h5, h6, hfp⟩ b hb => by
    subst hfp
    simp only [List.mem_append] at hb
    rcases hb with hb | hb | hb | hb | hb | hb
    · exact h1.lt b hb
    · exact h2.lt b hb
    · exact h3.lt b hb
    · exact h4.lt b hb
    · exact h5.lt b hb
    · exact h6.lt b hb
theorem size_WorldD : Shape.size WorldD = 14 := rfl

structure ActD where
  kind : Int
  deed : Deed
  n : Int
  keep : List Int
  deriving DecidableEq
def ActD.ok (x : ActD) : Prop := I64 x.kind ∧ x.deed.ok ∧ I64 x.n
instance : Shape ActD where
  size := 14
  C := fun w cs x fp => ∃ (v1 v2 : Value) (f1 f2 : List Nat), cs = [I x.kind, I x.deed.kind, I x.deed.run, I x.deed.plan.prio, I x.deed.plan.most, I x.deed.plan.wait, I x.deed.plan.tasks, v1, I x.deed.task, I x.deed.try_, I x.deed.worker, I x.deed.draw, I x.n, v2] ∧ x.ok ∧ Sl w v1 x.deed.plan.edges f1 ∧ Sl w v2 x.keep f2 ∧ fp = f1 ++ (f2)
  len := fun ⟨v1, v2, f1, f2, h, hok, h1, h2, hfp⟩ => by rw [h]; rfl
  loc := fun hs hk ⟨v1, v2, f1, f2, h, hok, h1, h2, hfp⟩ => ⟨v1, v2, f1, f2, h, hok, h1.loc (fun b hb => hk b (by rw [hfp]; simp [hb])) hs, h2.loc (fun b hb => hk b (by rw [hfp]; simp [hb])) hs, hfp⟩
  one := fun ⟨v1, v2, f1, f2, h, hok, h1, h2, hfp⟩ u hu => by
    obtain ⟨ao0, cap0, rfl, _⟩ := h1
    obtain ⟨ao1, cap1, rfl, _⟩ := h2
    subst h
    simp at hu
    rcases hu with rfl | rfl | rfl | rfl | rfl | rfl | rfl | rfl | rfl | rfl | rfl | rfl | rfl | rfl <;> rfl
  lt := fun ⟨v1, v2, f1, f2, h, hok, h1, h2, hfp⟩ b hb => by
    subst hfp
    simp only [List.mem_append] at hb
    rcases hb with hb | hb
    · exact h1.lt b hb
    · exact h2.lt b hb
theorem size_ActD : Shape.size ActD = 14 := rfl

structure Hand where
  run : Int
  task : Int
  try_ : Int
  at_ : Int
  deriving DecidableEq
def Hand.ok (x : Hand) : Prop := I64 x.run ∧ I64 x.task ∧ I64 x.try_ ∧ I64 x.at_
def Hand.cells (x : Hand) : List Value := [I x.run, I x.task, I x.try_, I x.at_]
instance : Shape Hand := Shape.flat 4 Hand.cells Hand.ok (fun _ => rfl) (fun _ v hv => by simp [Hand.cells] at hv; rcases hv with rfl | rfl | rfl | rfl <;> rfl)
theorem size_Hand : Shape.size Hand = 4 := rfl

structure Span where
  deed : Deed
  begin_ : Int
  end_ : Int
  reply : Reply
  deriving DecidableEq
def Span.ok (x : Span) : Prop := x.deed.ok ∧ I64 x.begin_ ∧ I64 x.end_ ∧ x.reply.ok
instance : Shape Span where
  size := 17
  C := fun w cs x fp => ∃ (v1 : Value) (f1 : List Nat), cs = [I x.deed.kind, I x.deed.run, I x.deed.plan.prio, I x.deed.plan.most, I x.deed.plan.wait, I x.deed.plan.tasks, v1, I x.deed.task, I x.deed.try_, I x.deed.worker, I x.deed.draw, I x.begin_, I x.end_, I x.reply.code, I x.reply.run, I x.reply.task, I x.reply.try_] ∧ x.ok ∧ Sl w v1 x.deed.plan.edges f1 ∧ fp = f1
  len := fun ⟨v1, f1, h, hok, h1, hfp⟩ => by rw [h]; rfl
  loc := fun hs hk ⟨v1, f1, h, hok, h1, hfp⟩ => ⟨v1, f1, h, hok, h1.loc (fun b hb => hk b (by rw [hfp]; simp [hb])) hs, hfp⟩
  one := fun ⟨v1, f1, h, hok, h1, hfp⟩ u hu => by
    obtain ⟨ao0, cap0, rfl, _⟩ := h1
    subst h
    simp at hu
    rcases hu with rfl | rfl | rfl | rfl | rfl | rfl | rfl | rfl | rfl | rfl | rfl | rfl | rfl | rfl | rfl | rfl | rfl <;> rfl
  lt := fun ⟨v1, f1, h, hok, h1, hfp⟩ b hb => by
    subst hfp
    exact h1.lt b hb
theorem size_Span : Shape.size Span = 17 := rfl

structure Crew where
  yard : Yard
  holds : List Reply
  turns : Int
  did : Int
  deriving DecidableEq
def Crew.ok (x : Crew) : Prop := x.yard.ok ∧ I64 x.turns ∧ I64 x.did
instance : Shape Crew where
  size := 7
  C := fun w cs x fp => ∃ (v1 v2 v3 : Value) (f1 f2 f3 : List Nat), cs = [I x.yard.now, I x.yard.seq, v1, v2, v3, I x.turns, I x.did] ∧ x.ok ∧ Sl w v1 x.yard.shelf f1 ∧ Sl w v2 x.yard.runs f2 ∧ Sl w v3 x.holds f3 ∧ fp = f1 ++ (f2 ++ (f3))
  len := fun ⟨v1, v2, v3, f1, f2, f3, h, hok, h1, h2, h3, hfp⟩ => by rw [h]; rfl
  loc := fun hs hk ⟨v1, v2, v3, f1, f2, f3, h, hok, h1, h2, h3, hfp⟩ => ⟨v1, v2, v3, f1, f2, f3, h, hok, h1.loc (fun b hb => hk b (by rw [hfp]; simp [hb])) hs, h2.loc (fun b hb => hk b (by rw [hfp]; simp [hb])) hs, h3.loc (fun b hb => hk b (by rw [hfp]; simp [hb])) hs, hfp⟩
  one := fun ⟨v1, v2, v3, f1, f2, f3, h, hok, h1, h2, h3, hfp⟩ u hu => by
    obtain ⟨ao0, cap0, rfl, _⟩ := h1
    obtain ⟨ao1, cap1, rfl, _⟩ := h2
    obtain ⟨ao2, cap2, rfl, _⟩ := h3
    subst h
    simp at hu
    rcases hu with rfl | rfl | rfl | rfl | rfl | rfl | rfl <;> rfl
  lt := fun ⟨v1, v2, v3, f1, f2, f3, h, hok, h1, h2, h3, hfp⟩ b hb => by
    subst hfp
    simp only [List.mem_append] at hb
    rcases hb with hb | hb | hb
    · exact h1.lt b hb
    · exact h2.lt b hb
    · exact h3.lt b hb
theorem size_Crew : Shape.size Crew = 7 := rfl

structure View where
  state : Int
  waits : Int
  ready : Int
  runs : Int
  done : Int
  failed : Int
  left : Int
  deriving DecidableEq
def View.ok (x : View) : Prop := I64 x.state ∧ I64 x.waits ∧ I64 x.ready ∧ I64 x.runs ∧ I64 x.done ∧ I64 x.failed ∧ I64 x.left
def View.cells (x : View) : List Value := [I x.state, I x.waits, I x.ready, I x.runs, I x.done, I x.failed, I x.left]
instance : Shape View := Shape.flat 7 View.cells View.ok (fun _ => rfl) (fun _ v hv => by simp [View.cells] at hv; rcases hv with rfl | rfl | rfl | rfl | rfl | rfl | rfl <;> rfl)
theorem size_View : Shape.size View = 7 := rfl

/-- What is the row of n cells whose values are known, cell by cell. -/
theorem cellsAt1 {w : World} {b o : Nat} {v0 : Value} (h : w.rangeAt b o [v0]) : w.cell? ⟨b, o, none⟩ = some v0 :=
  h 0 _ rfl
theorem cellsAt2 {w : World} {b o : Nat} {v0 v1 : Value} (h : w.rangeAt b o [v0, v1]) : w.cell? ⟨b, o, none⟩ = some v0 ∧ w.cell? ⟨b, o + 1, none⟩ = some v1 :=
  ⟨h 0 _ rfl, h 1 _ rfl⟩
theorem cellsAt3 {w : World} {b o : Nat} {v0 v1 v2 : Value} (h : w.rangeAt b o [v0, v1, v2]) : w.cell? ⟨b, o, none⟩ = some v0 ∧ w.cell? ⟨b, o + 1, none⟩ = some v1 ∧ w.cell? ⟨b, o + 2, none⟩ = some v2 :=
  ⟨h 0 _ rfl, h 1 _ rfl, h 2 _ rfl⟩
theorem cellsAt4 {w : World} {b o : Nat} {v0 v1 v2 v3 : Value} (h : w.rangeAt b o [v0, v1, v2, v3]) : w.cell? ⟨b, o, none⟩ = some v0 ∧ w.cell? ⟨b, o + 1, none⟩ = some v1 ∧ w.cell? ⟨b, o + 2, none⟩ = some v2 ∧ w.cell? ⟨b, o + 3, none⟩ = some v3 :=
  ⟨h 0 _ rfl, h 1 _ rfl, h 2 _ rfl, h 3 _ rfl⟩
theorem cellsAt5 {w : World} {b o : Nat} {v0 v1 v2 v3 v4 : Value} (h : w.rangeAt b o [v0, v1, v2, v3, v4]) : w.cell? ⟨b, o, none⟩ = some v0 ∧ w.cell? ⟨b, o + 1, none⟩ = some v1 ∧ w.cell? ⟨b, o + 2, none⟩ = some v2 ∧ w.cell? ⟨b, o + 3, none⟩ = some v3 ∧ w.cell? ⟨b, o + 4, none⟩ = some v4 :=
  ⟨h 0 _ rfl, h 1 _ rfl, h 2 _ rfl, h 3 _ rfl, h 4 _ rfl⟩
theorem cellsAt7 {w : World} {b o : Nat} {v0 v1 v2 v3 v4 v5 v6 : Value} (h : w.rangeAt b o [v0, v1, v2, v3, v4, v5, v6]) : w.cell? ⟨b, o, none⟩ = some v0 ∧ w.cell? ⟨b, o + 1, none⟩ = some v1 ∧ w.cell? ⟨b, o + 2, none⟩ = some v2 ∧ w.cell? ⟨b, o + 3, none⟩ = some v3 ∧ w.cell? ⟨b, o + 4, none⟩ = some v4 ∧ w.cell? ⟨b, o + 5, none⟩ = some v5 ∧ w.cell? ⟨b, o + 6, none⟩ = some v6 :=
  ⟨h 0 _ rfl, h 1 _ rfl, h 2 _ rfl, h 3 _ rfl, h 4 _ rfl, h 5 _ rfl, h 6 _ rfl⟩
theorem cellsAt8 {w : World} {b o : Nat} {v0 v1 v2 v3 v4 v5 v6 v7 : Value} (h : w.rangeAt b o [v0, v1, v2, v3, v4, v5, v6, v7]) : w.cell? ⟨b, o, none⟩ = some v0 ∧ w.cell? ⟨b, o + 1, none⟩ = some v1 ∧ w.cell? ⟨b, o + 2, none⟩ = some v2 ∧ w.cell? ⟨b, o + 3, none⟩ = some v3 ∧ w.cell? ⟨b, o + 4, none⟩ = some v4 ∧ w.cell? ⟨b, o + 5, none⟩ = some v5 ∧ w.cell? ⟨b, o + 6, none⟩ = some v6 ∧ w.cell? ⟨b, o + 7, none⟩ = some v7 :=
  ⟨h 0 _ rfl, h 1 _ rfl, h 2 _ rfl, h 3 _ rfl, h 4 _ rfl, h 5 _ rfl, h 6 _ rfl, h 7 _ rfl⟩
theorem cellsAt10 {w : World} {b o : Nat} {v0 v1 v2 v3 v4 v5 v6 v7 v8 v9 : Value} (h : w.rangeAt b o [v0, v1, v2, v3, v4, v5, v6, v7, v8, v9]) : w.cell? ⟨b, o, none⟩ = some v0 ∧ w.cell? ⟨b, o + 1, none⟩ = some v1 ∧ w.cell? ⟨b, o + 2, none⟩ = some v2 ∧ w.cell? ⟨b, o + 3, none⟩ = some v3 ∧ w.cell? ⟨b, o + 4, none⟩ = some v4 ∧ w.cell? ⟨b, o + 5, none⟩ = some v5 ∧ w.cell? ⟨b, o + 6, none⟩ = some v6 ∧ w.cell? ⟨b, o + 7, none⟩ = some v7 ∧ w.cell? ⟨b, o + 8, none⟩ = some v8 ∧ w.cell? ⟨b, o + 9, none⟩ = some v9 :=
  ⟨h 0 _ rfl, h 1 _ rfl, h 2 _ rfl, h 3 _ rfl, h 4 _ rfl, h 5 _ rfl, h 6 _ rfl, h 7 _ rfl, h 8 _ rfl, h 9 _ rfl⟩
theorem cellsAt11 {w : World} {b o : Nat} {v0 v1 v2 v3 v4 v5 v6 v7 v8 v9 v10 : Value} (h : w.rangeAt b o [v0, v1, v2, v3, v4, v5, v6, v7, v8, v9, v10]) : w.cell? ⟨b, o, none⟩ = some v0 ∧ w.cell? ⟨b, o + 1, none⟩ = some v1 ∧ w.cell? ⟨b, o + 2, none⟩ = some v2 ∧ w.cell? ⟨b, o + 3, none⟩ = some v3 ∧ w.cell? ⟨b, o + 4, none⟩ = some v4 ∧ w.cell? ⟨b, o + 5, none⟩ = some v5 ∧ w.cell? ⟨b, o + 6, none⟩ = some v6 ∧ w.cell? ⟨b, o + 7, none⟩ = some v7 ∧ w.cell? ⟨b, o + 8, none⟩ = some v8 ∧ w.cell? ⟨b, o + 9, none⟩ = some v9 ∧ w.cell? ⟨b, o + 10, none⟩ = some v10 :=
  ⟨h 0 _ rfl, h 1 _ rfl, h 2 _ rfl, h 3 _ rfl, h 4 _ rfl, h 5 _ rfl, h 6 _ rfl, h 7 _ rfl, h 8 _ rfl, h 9 _ rfl, h 10 _ rfl⟩
theorem cellsAt12 {w : World} {b o : Nat} {v0 v1 v2 v3 v4 v5 v6 v7 v8 v9 v10 v11 : Value} (h : w.rangeAt b o [v0, v1, v2, v3, v4, v5, v6, v7, v8, v9, v10, v11]) : w.cell? ⟨b, o, none⟩ = some v0 ∧ w.cell? ⟨b, o + 1, none⟩ = some v1 ∧ w.cell? ⟨b, o + 2, none⟩ = some v2 ∧ w.cell? ⟨b, o + 3, none⟩ = some v3 ∧ w.cell? ⟨b, o + 4, none⟩ = some v4 ∧ w.cell? ⟨b, o + 5, none⟩ = some v5 ∧ w.cell? ⟨b, o + 6, none⟩ = some v6 ∧ w.cell? ⟨b, o + 7, none⟩ = some v7 ∧ w.cell? ⟨b, o + 8, none⟩ = some v8 ∧ w.cell? ⟨b, o + 9, none⟩ = some v9 ∧ w.cell? ⟨b, o + 10, none⟩ = some v10 ∧ w.cell? ⟨b, o + 11, none⟩ = some v11 :=
  ⟨h 0 _ rfl, h 1 _ rfl, h 2 _ rfl, h 3 _ rfl, h 4 _ rfl, h 5 _ rfl, h 6 _ rfl, h 7 _ rfl, h 8 _ rfl, h 9 _ rfl, h 10 _ rfl, h 11 _ rfl⟩
theorem cellsAt14 {w : World} {b o : Nat} {v0 v1 v2 v3 v4 v5 v6 v7 v8 v9 v10 v11 v12 v13 : Value} (h : w.rangeAt b o [v0, v1, v2, v3, v4, v5, v6, v7, v8, v9, v10, v11, v12, v13]) : w.cell? ⟨b, o, none⟩ = some v0 ∧ w.cell? ⟨b, o + 1, none⟩ = some v1 ∧ w.cell? ⟨b, o + 2, none⟩ = some v2 ∧ w.cell? ⟨b, o + 3, none⟩ = some v3 ∧ w.cell? ⟨b, o + 4, none⟩ = some v4 ∧ w.cell? ⟨b, o + 5, none⟩ = some v5 ∧ w.cell? ⟨b, o + 6, none⟩ = some v6 ∧ w.cell? ⟨b, o + 7, none⟩ = some v7 ∧ w.cell? ⟨b, o + 8, none⟩ = some v8 ∧ w.cell? ⟨b, o + 9, none⟩ = some v9 ∧ w.cell? ⟨b, o + 10, none⟩ = some v10 ∧ w.cell? ⟨b, o + 11, none⟩ = some v11 ∧ w.cell? ⟨b, o + 12, none⟩ = some v12 ∧ w.cell? ⟨b, o + 13, none⟩ = some v13 :=
  ⟨h 0 _ rfl, h 1 _ rfl, h 2 _ rfl, h 3 _ rfl, h 4 _ rfl, h 5 _ rfl, h 6 _ rfl, h 7 _ rfl, h 8 _ rfl, h 9 _ rfl, h 10 _ rfl, h 11 _ rfl, h 12 _ rfl, h 13 _ rfl⟩
theorem cellsAt17 {w : World} {b o : Nat} {v0 v1 v2 v3 v4 v5 v6 v7 v8 v9 v10 v11 v12 v13 v14 v15 v16 : Value} (h : w.rangeAt b o [v0, v1, v2, v3, v4, v5, v6, v7, v8, v9, v10, v11, v12, v13, v14, v15, v16]) : w.cell? ⟨b, o, none⟩ = some v0 ∧ w.cell? ⟨b, o + 1, none⟩ = some v1 ∧ w.cell? ⟨b, o + 2, none⟩ = some v2 ∧ w.cell? ⟨b, o + 3, none⟩ = some v3 ∧ w.cell? ⟨b, o + 4, none⟩ = some v4 ∧ w.cell? ⟨b, o + 5, none⟩ = some v5 ∧ w.cell? ⟨b, o + 6, none⟩ = some v6 ∧ w.cell? ⟨b, o + 7, none⟩ = some v7 ∧ w.cell? ⟨b, o + 8, none⟩ = some v8 ∧ w.cell? ⟨b, o + 9, none⟩ = some v9 ∧ w.cell? ⟨b, o + 10, none⟩ = some v10 ∧ w.cell? ⟨b, o + 11, none⟩ = some v11 ∧ w.cell? ⟨b, o + 12, none⟩ = some v12 ∧ w.cell? ⟨b, o + 13, none⟩ = some v13 ∧ w.cell? ⟨b, o + 14, none⟩ = some v14 ∧ w.cell? ⟨b, o + 15, none⟩ = some v15 ∧ w.cell? ⟨b, o + 16, none⟩ = some v16 :=
  ⟨h 0 _ rfl, h 1 _ rfl, h 2 _ rfl, h 3 _ rfl, h 4 _ rfl, h 5 _ rfl, h 6 _ rfl, h 7 _ rfl, h 8 _ rfl, h 9 _ rfl, h 10 _ rfl, h 11 _ rfl, h 12 _ rfl, h 13 _ rfl, h 14 _ rfl, h 15 _ rfl, h 16 _ rfl⟩
end Go.Proofs.YtchnllpegfbleaaDoor
