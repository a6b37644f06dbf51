/-
  The laws' marks: what is written. (Printed by a program of this project's.)
-/
import Derived.Test.YtchnllpegfbleaaLend
import Derived.Test.YtchnllpegfbleaaTab
import Derived.Test.YtchnllpegfbleaaKBase
import Derived.Test.YtchnllpegfbleaaText
namespace Go.Proofs.Ytchnllpegfbleaa
set_option linter.unusedSimpArgs false
set_option linter.unusedVariables false
set_option maxRecDepth 100000
open Go.RowKit


/-- Elements are marked one behind the other; each takes as many numbers as it has places. -/
def mkL {α : Type} (f : α → Int → α) (n : α → Nat) : List α → Int → List α
  | [], _ => []
  | x :: xs, k => f x k :: mkL f n xs (k + (n x : Nat))
def cL {α : Type} (n : α → Nat) (xs : List α) : Nat := (xs.map n).sum
section
variable {α : Type} {f : α → Int → α} {n : α → Nat}
theorem mkL_len : ∀ (xs : List α) (k : Int), (mkL f n xs k).length = xs.length
  | [], _ => rfl
  | x :: xs, k => by simp [mkL, mkL_len xs]
theorem cL_take (n : α → Nat) (xs : List α) (i : Nat) (h : i < xs.length) : cL n (xs.take (i + 1)) = cL n (xs.take i) + n xs[i] := wtL_take n xs i h
theorem cL_take_le (n : α → Nat) (xs : List α) (i : Nat) : cL n (xs.take i) ≤ cL n xs := wtL_take_le n xs i
theorem cL_all (n : α → Nat) (xs : List α) (i : Nat) (h : i = xs.length) : cL n (xs.take i) = cL n xs := by subst h; rw [List.take_length]
theorem mkL_append : ∀ (xs ys : List α) (k : Int), mkL f n (xs ++ ys) k = mkL f n xs k ++ mkL f n ys (k + (cL n xs : Nat))
  | [], ys, k => by simp [mkL, cL]
  | x :: xs, ys, k => by
    simp only [List.cons_append, mkL, mkL_append xs ys, cL, List.map_cons, List.sum_cons]
    congr 3
    push_cast; omega
theorem mk_get? {xs : List α} {k : Int} {i : Nat} (h : i < xs.length) : (mkL f n (xs.take i) k ++ xs.drop i)[i]? = some xs[i] := by
  have hl : (mkL f n (xs.take i) k).length = i := by rw [mkL_len, List.length_take]; omega
  rw [List.getElem?_append_right (by omega), hl, Nat.sub_self, List.getElem?_drop, Nat.add_zero, List.getElem?_eq_getElem h]
theorem mk_step {xs : List α} {k K : Int} {i : Nat} (h : i < xs.length) (hK : K = k + (cL n (xs.take i) : Nat)) : (mkL f n (xs.take i) k ++ xs.drop i).set i (f xs[i] K) = mkL f n (xs.take (i + 1)) k ++ xs.drop (i + 1) := by
  have hl : (mkL f n (xs.take i) k).length = i := by rw [mkL_len, List.length_take]; omega
  rw [List.set_append_right _ _ (by omega), hl, Nat.sub_self, List.drop_eq_getElem_cons h, List.set_cons_zero, List.take_succ_eq_append_getElem h, mkL_append, List.append_assoc]
  subst hK
  rfl
theorem mk_all {xs : List α} {k : Int} {i : Nat} (h : i = xs.length) : mkL f n (xs.take i) k ++ xs.drop i = mkL f n xs k := by subst h; simp
theorem mk_get {xs : List α} {k : Int} {i : Nat} (h : i < xs.length) : (mkL f n xs k)[i]? = some (f xs[i] (k + (cL n (xs.take i) : Nat))) := by
  have e : xs = xs.take i ++ xs.drop i := by simp
  have hl : (mkL f n (xs.take i) k).length = i := by rw [mkL_len, List.length_take]; omega
  conv => lhs; rw [e, mkL_append]
  rw [List.getElem?_append_right (by omega), hl, Nat.sub_self, List.drop_eq_getElem_cons h]
  rfl
theorem idxm [Shape α] {w : World} {v : Value} {xs : List α} {fp : List Nat} {k K : Int} (hs : Sl w v (mkL f n xs k) fp) {i : Nat} (hi : i < xs.length) (hK : K = k + (cL n (xs.take i) : Nat)) : ∃ b o cs f1, PA v (Shape.size α) i b o ∧ w.rangeAt b o cs ∧ Shape.C w cs (f xs[i] K) f1 ∧ ∀ c ∈ b :: f1, c ∈ fp := by
  obtain ⟨b, o, cs, f1, h1, h2, h3, h4⟩ := idx hs (i := i) (by rw [mkL_len]; exact hi)
  refine ⟨b, o, cs, f1, h1, h2, ?_, h4⟩
  have := mk_get (f := f) (n := n) (xs := xs) (k := k) hi
  obtain ⟨hl, he⟩ := List.getElem?_eq_some_iff.1 this
  rw [he, ← hK] at h3
  exact h3
end
section
variable {α : Type} {f : α → Int → α} {n : α → Nat}
theorem cL_takey (n : α → Nat) {xs : List α} {i : Nat} {y : α} (h : xs[i]? = some y) : cL n (xs.take (i + 1)) = cL n (xs.take i) + n y := by
  obtain ⟨hl, rfl⟩ := List.getElem?_eq_some_iff.1 h
  exact cL_take n xs i hl
theorem mk_gety {xs : List α} {k : Int} {i : Nat} {y : α} (h : xs[i]? = some y) : (mkL f n (xs.take i) k ++ xs.drop i)[i]? = some y := by
  obtain ⟨hl, rfl⟩ := List.getElem?_eq_some_iff.1 h
  exact mk_get? hl
theorem mk_stepy {xs : List α} {k K : Int} {i : Nat} {y : α} (h : xs[i]? = some y) (hK : K = k + (cL n (xs.take i) : Nat)) : (mkL f n (xs.take i) k ++ xs.drop i).set i (f y K) = mkL f n (xs.take (i + 1)) k ++ xs.drop (i + 1) := by
  obtain ⟨hl, rfl⟩ := List.getElem?_eq_some_iff.1 h
  exact mk_step hl hK
theorem idxmy [Shape α] {w : World} {v : Value} {xs : List α} {fp : List Nat} {k K : Int} {y : α} (hs : Sl w v (mkL f n xs k) fp) {i : Nat} (hi : xs[i]? = some y) (hK : K = k + (cL n (xs.take i) : Nat)) : ∃ b o cs f1, PA v (Shape.size α) i b o ∧ w.rangeAt b o cs ∧ Shape.C w cs (f y K) f1 ∧ ∀ c ∈ b :: f1, c ∈ fp := by
  obtain ⟨hl, rfl⟩ := List.getElem?_eq_some_iff.1 hi
  exact idxm hs hl hK
end
theorem some_at {α : Type} {xs : List α} {i : Nat} (h : i < xs.length) : ∃ y, xs[i]? = some y := ⟨_, List.getElem?_eq_getElem h⟩
/-- A number with room for r more. -/
def Bd (x : Int) (r : Nat) : Prop := 0 ≤ x ∧ x + r ≤ 4611686018427387904
theorem Bd.up {x : Int} {r : Nat} (h : Bd x (1 + r)) : Bd (x + 1) r := by unfold Bd at *; omega
theorem Bd.upc {x : Int} {c r : Nat} (h : Bd x (c + r)) : Bd (x + (c : Nat)) r := by unfold Bd at *; omega
theorem Bd.i64 {x : Int} {r : Nat} (h : Bd x r) : I64 x := by unfold Bd I64 at *; omega
theorem Bd.lo {x : Int} {r : Nat} (h : Bd x r) : 0 ≤ x := h.1
theorem Bd.hi {x : Int} {c r : Nat} (h : Bd x (c + r)) : x + (c : Nat) ≤ 4611686018427387904 := by unfold Bd at *; omega
def neI {α : Type} (_ : α) : Nat := 1
def mkI (_ : Int) (k : Int) : Int := k
def mkS (_ : ByteArray) (k : Int) : ByteArray := mtext k

def neE_Edge (x : Edge) : Nat := 2
def mkE_Edge (x : Edge) (k : Int) : Edge := ⟨k, k + 1⟩

def neE_Plan (x : Plan) : Nat := 4 + cL neE_Edge x.edges
def mkE_Plan (x : Plan) (k : Int) : Plan := ⟨k, k + 1, (k + 1) + 1, ((k + 1) + 1) + 1, mkL mkE_Edge neE_Edge x.edges ((((k + 1) + 1) + 1) + 1)⟩

def ntT_Plan (x : Plan) : Nat := cL neE_Edge x.edges
def mkT_Plan (x : Plan) (k : Int) : Plan := ⟨x.prio, x.most, x.wait, x.tasks, mkL mkE_Edge neE_Edge x.edges k⟩

def neE_Entry (x : Entry) : Nat := 4
def mkE_Entry (x : Entry) (k : Int) : Entry := ⟨k, k + 1, (k + 1) + 1, ((k + 1) + 1) + 1⟩

def neE_Task (x : Task) : Nat := 4
def mkE_Task (x : Task) (k : Int) : Task := ⟨k, k + 1, (k + 1) + 1, ((k + 1) + 1) + 1⟩

def neE_Run (x : Run) : Nat := 6 + cL neE_Edge x.plan.edges + cL neE_Task x.tasks
def mkE_Run (x : Run) (k : Int) : Run := ⟨k, ⟨k + 1, (k + 1) + 1, ((k + 1) + 1) + 1, (((k + 1) + 1) + 1) + 1, mkL mkE_Edge neE_Edge x.plan.edges (((((k + 1) + 1) + 1) + 1) + 1)⟩, (((((k + 1) + 1) + 1) + 1) + 1) + (cL neE_Edge x.plan.edges : Nat), mkL mkE_Task neE_Task x.tasks (((((((k + 1) + 1) + 1) + 1) + 1) + (cL neE_Edge x.plan.edges : Nat)) + 1)⟩

def ntT_Run (x : Run) : Nat := ntT_Plan x.plan + cL neE_Task x.tasks
def mkT_Run (x : Run) (k : Int) : Run := ⟨x.id, mkT_Plan x.plan k, x.state, mkL mkE_Task neE_Task x.tasks (k + (ntT_Plan x.plan : Nat))⟩

def neE_Yard (x : Yard) : Nat := 2 + cL (cL neE_Entry) x.shelf + cL neE_Run x.runs
def mkE_Yard (x : Yard) (k : Int) : Yard := ⟨k, k + 1, mkL (mkL mkE_Entry neE_Entry) (cL neE_Entry) x.shelf ((k + 1) + 1), mkL mkE_Run neE_Run x.runs (((k + 1) + 1) + (cL (cL neE_Entry) x.shelf : Nat))⟩

def ntT_Yard (x : Yard) : Nat := cL (cL neE_Entry) x.shelf + cL neE_Run x.runs
def mkT_Yard (x : Yard) (k : Int) : Yard := ⟨x.now, x.seq, mkL (mkL mkE_Entry neE_Entry) (cL neE_Entry) x.shelf k, mkL mkE_Run neE_Run x.runs (k + (cL (cL neE_Entry) x.shelf : Nat))⟩

def neE_Reply (x : Reply) : Nat := 4
def mkE_Reply (x : Reply) (k : Int) : Reply := ⟨k, k + 1, (k + 1) + 1, ((k + 1) + 1) + 1⟩

def neE_Deed (x : Deed) : Nat := 10 + cL neE_Edge x.plan.edges
def mkE_Deed (x : Deed) (k : Int) : Deed := ⟨k, k + 1, ⟨(k + 1) + 1, ((k + 1) + 1) + 1, (((k + 1) + 1) + 1) + 1, ((((k + 1) + 1) + 1) + 1) + 1, mkL mkE_Edge neE_Edge x.plan.edges ((((((k + 1) + 1) + 1) + 1) + 1) + 1)⟩, ((((((k + 1) + 1) + 1) + 1) + 1) + 1) + (cL neE_Edge x.plan.edges : Nat), (((((((k + 1) + 1) + 1) + 1) + 1) + 1) + (cL neE_Edge x.plan.edges : Nat)) + 1, ((((((((k + 1) + 1) + 1) + 1) + 1) + 1) + (cL neE_Edge x.plan.edges : Nat)) + 1) + 1, (((((((((k + 1) + 1) + 1) + 1) + 1) + 1) + (cL neE_Edge x.plan.edges : Nat)) + 1) + 1) + 1⟩

def ntT_Deed (x : Deed) : Nat := ntT_Plan x.plan
def mkT_Deed (x : Deed) (k : Int) : Deed := ⟨x.kind, x.run, mkT_Plan x.plan k, x.task, x.try_, x.worker, x.draw⟩

def neE_Note (x : Note) : Nat := 11 + cL neE_Edge x.deed.plan.edges
def mkE_Note (x : Note) (k : Int) : Note := ⟨k, ⟨k + 1, (k + 1) + 1, ⟨((k + 1) + 1) + 1, (((k + 1) + 1) + 1) + 1, ((((k + 1) + 1) + 1) + 1) + 1, (((((k + 1) + 1) + 1) + 1) + 1) + 1, mkL mkE_Edge neE_Edge x.deed.plan.edges (((((((k + 1) + 1) + 1) + 1) + 1) + 1) + 1)⟩, (((((((k + 1) + 1) + 1) + 1) + 1) + 1) + 1) + (cL neE_Edge x.deed.plan.edges : Nat), ((((((((k + 1) + 1) + 1) + 1) + 1) + 1) + 1) + (cL neE_Edge x.deed.plan.edges : Nat)) + 1, (((((((((k + 1) + 1) + 1) + 1) + 1) + 1) + 1) + (cL neE_Edge x.deed.plan.edges : Nat)) + 1) + 1, ((((((((((k + 1) + 1) + 1) + 1) + 1) + 1) + 1) + (cL neE_Edge x.deed.plan.edges : Nat)) + 1) + 1) + 1⟩⟩

def ntT_Note (x : Note) : Nat := ntT_Deed x.deed
def mkT_Note (x : Note) (k : Int) : Note := ⟨x.seq, mkT_Deed x.deed k⟩

def neE_Wait (x : Wait) : Nat := 5
def mkE_Wait (x : Wait) (k : Int) : Wait := ⟨k, ⟨k + 1, (k + 1) + 1, ((k + 1) + 1) + 1, (((k + 1) + 1) + 1) + 1⟩⟩

def neE_File (x : File) : Nat := 3
def mkE_File (x : File) (k : Int) : File := ⟨mtext k, mtext (k + 1), (k + 1) + 1⟩

def neE_Disk (x : Disk) : Nat := 0 + cL neE_File x.files
def mkE_Disk (x : Disk) (k : Int) : Disk := ⟨mkL mkE_File neE_File x.files k⟩

def ntT_Disk (x : Disk) : Nat := cL neE_File x.files
def mkT_Disk (x : Disk) (k : Int) : Disk := ⟨mkL mkE_File neE_File x.files k⟩

def neE_Engine (x : Engine) : Nat := 5 + cL (cL neE_Entry) x.yard.shelf + cL neE_Run x.yard.runs + cL neE_File x.disk.files + cL neE_Wait x.waits
def mkE_Engine (x : Engine) (k : Int) : Engine := ⟨⟨k, k + 1, mkL (mkL mkE_Entry neE_Entry) (cL neE_Entry) x.yard.shelf ((k + 1) + 1), mkL mkE_Run neE_Run x.yard.runs (((k + 1) + 1) + (cL (cL neE_Entry) x.yard.shelf : Nat))⟩, ⟨mkL mkE_File neE_File x.disk.files ((((k + 1) + 1) + (cL (cL neE_Entry) x.yard.shelf : Nat)) + (cL neE_Run x.yard.runs : Nat))⟩, ((((k + 1) + 1) + (cL (cL neE_Entry) x.yard.shelf : Nat)) + (cL neE_Run x.yard.runs : Nat)) + (cL neE_File x.disk.files : Nat), (((((k + 1) + 1) + (cL (cL neE_Entry) x.yard.shelf : Nat)) + (cL neE_Run x.yard.runs : Nat)) + (cL neE_File x.disk.files : Nat)) + 1, mkL mkE_Wait neE_Wait x.waits (((((((k + 1) + 1) + (cL (cL neE_Entry) x.yard.shelf : Nat)) + (cL neE_Run x.yard.runs : Nat)) + (cL neE_File x.disk.files : Nat)) + 1) + 1), (((((((k + 1) + 1) + (cL (cL neE_Entry) x.yard.shelf : Nat)) + (cL neE_Run x.yard.runs : Nat)) + (cL neE_File x.disk.files : Nat)) + 1) + 1) + (cL neE_Wait x.waits : Nat), x.broken⟩

def ntT_Engine (x : Engine) : Nat := ntT_Yard x.yard + ntT_Disk x.disk + cL neE_Wait x.waits
def mkT_Engine (x : Engine) (k : Int) : Engine := ⟨mkT_Yard x.yard k, mkT_Disk x.disk (k + (ntT_Yard x.yard : Nat)), x.next, x.calls, mkL mkE_Wait neE_Wait x.waits ((k + (ntT_Yard x.yard : Nat)) + (ntT_Disk x.disk : Nat)), x.state, x.broken⟩

def neE_World (x : WorldD) : Nat := 7 + cL (cL neE_Entry) x.engine.yard.shelf + cL neE_Run x.engine.yard.runs + cL neE_File x.engine.disk.files + cL neE_Wait x.engine.waits + cL neE_Deed x.deeds + cL neE_Reply x.replies
def mkE_World (x : WorldD) (k : Int) : WorldD := ⟨⟨⟨k, k + 1, mkL (mkL mkE_Entry neE_Entry) (cL neE_Entry) x.engine.yard.shelf ((k + 1) + 1), mkL mkE_Run neE_Run x.engine.yard.runs (((k + 1) + 1) + (cL (cL neE_Entry) x.engine.yard.shelf : Nat))⟩, ⟨mkL mkE_File neE_File x.engine.disk.files ((((k + 1) + 1) + (cL (cL neE_Entry) x.engine.yard.shelf : Nat)) + (cL neE_Run x.engine.yard.runs : Nat))⟩, ((((k + 1) + 1) + (cL (cL neE_Entry) x.engine.yard.shelf : Nat)) + (cL neE_Run x.engine.yard.runs : Nat)) + (cL neE_File x.engine.disk.files : Nat), (((((k + 1) + 1) + (cL (cL neE_Entry) x.engine.yard.shelf : Nat)) + (cL neE_Run x.engine.yard.runs : Nat)) + (cL neE_File x.engine.disk.files : Nat)) + 1, mkL mkE_Wait neE_Wait x.engine.waits (((((((k + 1) + 1) + (cL (cL neE_Entry) x.engine.yard.shelf : Nat)) + (cL neE_Run x.engine.yard.runs : Nat)) + (cL neE_File x.engine.disk.files : Nat)) + 1) + 1), (((((((k + 1) + 1) + (cL (cL neE_Entry) x.engine.yard.shelf : Nat)) + (cL neE_Run x.engine.yard.runs : Nat)) + (cL neE_File x.engine.disk.files : Nat)) + 1) + 1) + (cL neE_Wait x.engine.waits : Nat), x.engine.broken⟩, mkL mkE_Deed neE_Deed x.deeds (((((((((k + 1) + 1) + (cL (cL neE_Entry) x.engine.yard.shelf : Nat)) + (cL neE_Run x.engine.yard.runs : Nat)) + (cL neE_File x.engine.disk.files : Nat)) + 1) + 1) + (cL neE_Wait x.engine.waits : Nat)) + 1), mkL mkE_Reply neE_Reply x.replies ((((((((((k + 1) + 1) + (cL (cL neE_Entry) x.engine.yard.shelf : Nat)) + (cL neE_Run x.engine.yard.runs : Nat)) + (cL neE_File x.engine.disk.files : Nat)) + 1) + 1) + (cL neE_Wait x.engine.waits : Nat)) + 1) + (cL neE_Deed x.deeds : Nat)), ((((((((((k + 1) + 1) + (cL (cL neE_Entry) x.engine.yard.shelf : Nat)) + (cL neE_Run x.engine.yard.runs : Nat)) + (cL neE_File x.engine.disk.files : Nat)) + 1) + 1) + (cL neE_Wait x.engine.waits : Nat)) + 1) + (cL neE_Deed x.deeds : Nat)) + (cL neE_Reply x.replies : Nat), (((((((((((k + 1) + 1) + (cL (cL neE_Entry) x.engine.yard.shelf : Nat)) + (cL neE_Run x.engine.yard.runs : Nat)) + (cL neE_File x.engine.disk.files : Nat)) + 1) + 1) + (cL neE_Wait x.engine.waits : Nat)) + 1) + (cL neE_Deed x.deeds : Nat)) + (cL neE_Reply x.replies : Nat)) + 1⟩

def ntT_World (x : WorldD) : Nat := ntT_Engine x.engine + cL neE_Deed x.deeds + cL neE_Reply x.replies
def mkT_World (x : WorldD) (k : Int) : WorldD := ⟨mkT_Engine x.engine k, mkL mkE_Deed neE_Deed x.deeds (k + (ntT_Engine x.engine : Nat)), mkL mkE_Reply neE_Reply x.replies ((k + (ntT_Engine x.engine : Nat)) + (cL neE_Deed x.deeds : Nat)), x.told, x.fell⟩

def neE_Act (x : ActD) : Nat := 12 + cL neE_Edge x.deed.plan.edges + cL neI x.keep
def mkE_Act (x : ActD) (k : Int) : ActD := ⟨k, ⟨k + 1, (k + 1) + 1, ⟨((k + 1) + 1) + 1, (((k + 1) + 1) + 1) + 1, ((((k + 1) + 1) + 1) + 1) + 1, (((((k + 1) + 1) + 1) + 1) + 1) + 1, mkL mkE_Edge neE_Edge x.deed.plan.edges (((((((k + 1) + 1) + 1) + 1) + 1) + 1) + 1)⟩, (((((((k + 1) + 1) + 1) + 1) + 1) + 1) + 1) + (cL neE_Edge x.deed.plan.edges : Nat), ((((((((k + 1) + 1) + 1) + 1) + 1) + 1) + 1) + (cL neE_Edge x.deed.plan.edges : Nat)) + 1, (((((((((k + 1) + 1) + 1) + 1) + 1) + 1) + 1) + (cL neE_Edge x.deed.plan.edges : Nat)) + 1) + 1, ((((((((((k + 1) + 1) + 1) + 1) + 1) + 1) + 1) + (cL neE_Edge x.deed.plan.edges : Nat)) + 1) + 1) + 1⟩, (((((((((((k + 1) + 1) + 1) + 1) + 1) + 1) + 1) + (cL neE_Edge x.deed.plan.edges : Nat)) + 1) + 1) + 1) + 1, mkL mkI neI x.keep (((((((((((((k + 1) + 1) + 1) + 1) + 1) + 1) + 1) + (cL neE_Edge x.deed.plan.edges : Nat)) + 1) + 1) + 1) + 1) + 1)⟩

def ntT_Act (x : ActD) : Nat := ntT_Deed x.deed + cL neI x.keep
def mkT_Act (x : ActD) (k : Int) : ActD := ⟨x.kind, mkT_Deed x.deed k, x.n, mkL mkI neI x.keep (k + (ntT_Deed x.deed : Nat))⟩

def neE_Hand (x : Hand) : Nat := 4
def mkE_Hand (x : Hand) (k : Int) : Hand := ⟨k, k + 1, (k + 1) + 1, ((k + 1) + 1) + 1⟩

def neE_Span (x : Span) : Nat := 16 + cL neE_Edge x.deed.plan.edges
def mkE_Span (x : Span) (k : Int) : Span := ⟨⟨k, k + 1, ⟨(k + 1) + 1, ((k + 1) + 1) + 1, (((k + 1) + 1) + 1) + 1, ((((k + 1) + 1) + 1) + 1) + 1, mkL mkE_Edge neE_Edge x.deed.plan.edges ((((((k + 1) + 1) + 1) + 1) + 1) + 1)⟩, ((((((k + 1) + 1) + 1) + 1) + 1) + 1) + (cL neE_Edge x.deed.plan.edges : Nat), (((((((k + 1) + 1) + 1) + 1) + 1) + 1) + (cL neE_Edge x.deed.plan.edges : Nat)) + 1, ((((((((k + 1) + 1) + 1) + 1) + 1) + 1) + (cL neE_Edge x.deed.plan.edges : Nat)) + 1) + 1, (((((((((k + 1) + 1) + 1) + 1) + 1) + 1) + (cL neE_Edge x.deed.plan.edges : Nat)) + 1) + 1) + 1⟩, ((((((((((k + 1) + 1) + 1) + 1) + 1) + 1) + (cL neE_Edge x.deed.plan.edges : Nat)) + 1) + 1) + 1) + 1, (((((((((((k + 1) + 1) + 1) + 1) + 1) + 1) + (cL neE_Edge x.deed.plan.edges : Nat)) + 1) + 1) + 1) + 1) + 1, ⟨((((((((((((k + 1) + 1) + 1) + 1) + 1) + 1) + (cL neE_Edge x.deed.plan.edges : Nat)) + 1) + 1) + 1) + 1) + 1) + 1, (((((((((((((k + 1) + 1) + 1) + 1) + 1) + 1) + (cL neE_Edge x.deed.plan.edges : Nat)) + 1) + 1) + 1) + 1) + 1) + 1) + 1, ((((((((((((((k + 1) + 1) + 1) + 1) + 1) + 1) + (cL neE_Edge x.deed.plan.edges : Nat)) + 1) + 1) + 1) + 1) + 1) + 1) + 1) + 1, (((((((((((((((k + 1) + 1) + 1) + 1) + 1) + 1) + (cL neE_Edge x.deed.plan.edges : Nat)) + 1) + 1) + 1) + 1) + 1) + 1) + 1) + 1) + 1⟩⟩

def ntT_Span (x : Span) : Nat := ntT_Deed x.deed
def mkT_Span (x : Span) (k : Int) : Span := ⟨mkT_Deed x.deed k, x.begin_, x.end_, x.reply⟩

def neE_Crew (x : Crew) : Nat := 4 + cL (cL neE_Entry) x.yard.shelf + cL neE_Run x.yard.runs + cL neE_Reply x.holds
def mkE_Crew (x : Crew) (k : Int) : Crew := ⟨⟨k, k + 1, mkL (mkL mkE_Entry neE_Entry) (cL neE_Entry) x.yard.shelf ((k + 1) + 1), mkL mkE_Run neE_Run x.yard.runs (((k + 1) + 1) + (cL (cL neE_Entry) x.yard.shelf : Nat))⟩, mkL mkE_Reply neE_Reply x.holds ((((k + 1) + 1) + (cL (cL neE_Entry) x.yard.shelf : Nat)) + (cL neE_Run x.yard.runs : Nat)), ((((k + 1) + 1) + (cL (cL neE_Entry) x.yard.shelf : Nat)) + (cL neE_Run x.yard.runs : Nat)) + (cL neE_Reply x.holds : Nat), (((((k + 1) + 1) + (cL (cL neE_Entry) x.yard.shelf : Nat)) + (cL neE_Run x.yard.runs : Nat)) + (cL neE_Reply x.holds : Nat)) + 1⟩

def ntT_Crew (x : Crew) : Nat := ntT_Yard x.yard + cL neE_Reply x.holds
def mkT_Crew (x : Crew) (k : Int) : Crew := ⟨mkT_Yard x.yard k, mkL mkE_Reply neE_Reply x.holds (k + (ntT_Yard x.yard : Nat)), x.turns, x.did⟩

def neE_View (x : View) : Nat := 7
def mkE_View (x : View) (k : Int) : View := ⟨k, k + 1, (k + 1) + 1, ((k + 1) + 1) + 1, (((k + 1) + 1) + 1) + 1, ((((k + 1) + 1) + 1) + 1) + 1, (((((k + 1) + 1) + 1) + 1) + 1) + 1⟩

/-! ### How many numbers the marks take -/
theorem cL_bound {α : Type} {n f : α → Nat} (h : ∀ x, n x ≤ 16 * (1 + f x)) : ∀ xs : List α, cL n xs ≤ 16 * wtL f xs
  | [] => by simp [cL, wtL]
  | x :: xs => by
    have h1 := h x
    have h2 := cL_bound h xs
    simp only [cL, wtL, List.map_cons, List.sum_cons, List.length_cons] at *
    omega
theorem cL_flat {α : Type} {n : α → Nat} {c : Nat} (h : ∀ x, n x ≤ c) : ∀ xs : List α, cL n xs ≤ c * xs.length
  | [] => by simp [cL]
  | x :: xs => by
    have h1 := h x
    have h2 := cL_flat h xs
    simp only [cL, List.map_cons, List.sum_cons, List.length_cons, Nat.mul_add] at *
    omega

theorem cb_EdgeS (xs : List Edge) : cL neE_Edge xs ≤ 16 * xs.length := Nat.le_trans (cL_flat (n := neE_Edge) (c := 16) (fun y => by simp [neE_Edge]) xs) (Nat.le_refl _)
theorem nb_Plan (x : Plan) : neE_Plan x ≤ 16 * (1 + x.wt) := by
  have h0 := cb_EdgeS x.edges; simp only [neE_Plan, Plan.wt, Run.wt, Yard.wt, Deed.wt, Note.wt, File.wt, Disk.wt, Engine.wt, WorldD.wt, ActD.wt, Span.wt, Crew.wt] at *; omega
theorem nt_Plan (x : Plan) : ntT_Plan x ≤ 16 * x.wt := by
  have h4 := cb_EdgeS x.edges; unfold ntT_Plan; have hw : x.wt = x.edges.length := rfl; omega
theorem cb_PlanS (xs : List Plan) : cL neE_Plan xs ≤ 16 * (wtL (fun y : Plan => y.wt) xs) := cL_bound (n := neE_Plan) (f := fun y : Plan => y.wt) (fun y => nb_Plan y) xs
theorem cb_EntryS (xs : List Entry) : cL neE_Entry xs ≤ 16 * xs.length := Nat.le_trans (cL_flat (n := neE_Entry) (c := 16) (fun y => by simp [neE_Entry]) xs) (Nat.le_refl _)
theorem cb_TaskS (xs : List Task) : cL neE_Task xs ≤ 16 * xs.length := Nat.le_trans (cL_flat (n := neE_Task) (c := 16) (fun y => by simp [neE_Task]) xs) (Nat.le_refl _)
theorem nb_Run (x : Run) : neE_Run x ≤ 16 * (1 + x.wt) := by
  have h0 := cb_EdgeS x.plan.edges; have h1 := cb_TaskS x.tasks; simp only [neE_Run, Plan.wt, Run.wt, Yard.wt, Deed.wt, Note.wt, File.wt, Disk.wt, Engine.wt, WorldD.wt, ActD.wt, Span.wt, Crew.wt] at *; omega
theorem nt_Run (x : Run) : ntT_Run x ≤ 16 * x.wt := by
  have h1 := nt_Plan x.plan; have h3 := cb_TaskS x.tasks; unfold ntT_Run; have hw : x.wt = x.plan.wt + x.tasks.length := rfl; omega
theorem cb_RunS (xs : List Run) : cL neE_Run xs ≤ 16 * (wtL (fun y : Run => y.wt) xs) := cL_bound (n := neE_Run) (f := fun y : Run => y.wt) (fun y => nb_Run y) xs
theorem cb_EntrySS (xs : List (List Entry)) : cL (cL neE_Entry) xs ≤ 16 * (wtL (fun y : List Entry => y.length) xs) := cL_bound (n := cL neE_Entry) (f := fun y : List Entry => y.length) (fun y => by have := cb_EntryS y; omega) xs
theorem nb_Yard (x : Yard) : neE_Yard x ≤ 16 * (1 + x.wt) := by
  have h0 := cb_EntrySS x.shelf; have h1 := cb_RunS x.runs; simp only [neE_Yard, Plan.wt, Run.wt, Yard.wt, Deed.wt, Note.wt, File.wt, Disk.wt, Engine.wt, WorldD.wt, ActD.wt, Span.wt, Crew.wt] at *; omega
theorem nt_Yard (x : Yard) : ntT_Yard x ≤ 16 * x.wt := by
  have h2 := cb_EntrySS x.shelf; have h3 := cb_RunS x.runs; unfold ntT_Yard; have hw : x.wt = (wtL (fun y : List Entry => y.length) x.shelf) + (wtL (fun y : Run => y.wt) x.runs) := rfl; omega
theorem cb_YardS (xs : List Yard) : cL neE_Yard xs ≤ 16 * (wtL (fun y : Yard => y.wt) xs) := cL_bound (n := neE_Yard) (f := fun y : Yard => y.wt) (fun y => nb_Yard y) xs
theorem cb_ReplyS (xs : List Reply) : cL neE_Reply xs ≤ 16 * xs.length := Nat.le_trans (cL_flat (n := neE_Reply) (c := 16) (fun y => by simp [neE_Reply]) xs) (Nat.le_refl _)
theorem nb_Deed (x : Deed) : neE_Deed x ≤ 16 * (1 + x.wt) := by
  have h0 := cb_EdgeS x.plan.edges; simp only [neE_Deed, Plan.wt, Run.wt, Yard.wt, Deed.wt, Note.wt, File.wt, Disk.wt, Engine.wt, WorldD.wt, ActD.wt, Span.wt, Crew.wt] at *; omega
theorem nt_Deed (x : Deed) : ntT_Deed x ≤ 16 * x.wt := by
  have h2 := nt_Plan x.plan; unfold ntT_Deed; have hw : x.wt = x.plan.wt := rfl; omega
theorem cb_DeedS (xs : List Deed) : cL neE_Deed xs ≤ 16 * (wtL (fun y : Deed => y.wt) xs) := cL_bound (n := neE_Deed) (f := fun y : Deed => y.wt) (fun y => nb_Deed y) xs
theorem nb_Note (x : Note) : neE_Note x ≤ 16 * (1 + x.wt) := by
  have h0 := cb_EdgeS x.deed.plan.edges; simp only [neE_Note, Plan.wt, Run.wt, Yard.wt, Deed.wt, Note.wt, File.wt, Disk.wt, Engine.wt, WorldD.wt, ActD.wt, Span.wt, Crew.wt] at *; omega
theorem nt_Note (x : Note) : ntT_Note x ≤ 16 * x.wt := by
  have h1 := nt_Deed x.deed; unfold ntT_Note; have hw : x.wt = x.deed.wt := rfl; omega
theorem cb_NoteS (xs : List Note) : cL neE_Note xs ≤ 16 * (wtL (fun y : Note => y.wt) xs) := cL_bound (n := neE_Note) (f := fun y : Note => y.wt) (fun y => nb_Note y) xs
theorem cb_WaitS (xs : List Wait) : cL neE_Wait xs ≤ 16 * xs.length := Nat.le_trans (cL_flat (n := neE_Wait) (c := 16) (fun y => by simp [neE_Wait]) xs) (Nat.le_refl _)
theorem nb_File (x : File) : neE_File x ≤ 16 * (1 + x.wt) := by unfold neE_File; omega
theorem cb_FileS (xs : List File) : cL neE_File xs ≤ 16 * (wtL (fun y : File => y.wt) xs) := cL_bound (n := neE_File) (f := fun y : File => y.wt) (fun y => nb_File y) xs
theorem nb_Disk (x : Disk) : neE_Disk x ≤ 16 * (1 + x.wt) := by
  have h0 := cb_FileS x.files; simp only [neE_Disk, Plan.wt, Run.wt, Yard.wt, Deed.wt, Note.wt, File.wt, Disk.wt, Engine.wt, WorldD.wt, ActD.wt, Span.wt, Crew.wt] at *; omega
theorem nt_Disk (x : Disk) : ntT_Disk x ≤ 16 * x.wt := by
  have h0 := cb_FileS x.files; unfold ntT_Disk; have hw : x.wt = (wtL (fun y : File => y.wt) x.files) := rfl; omega
theorem cb_DiskS (xs : List Disk) : cL neE_Disk xs ≤ 16 * (wtL (fun y : Disk => y.wt) xs) := cL_bound (n := neE_Disk) (f := fun y : Disk => y.wt) (fun y => nb_Disk y) xs
theorem nb_Engine (x : Engine) : neE_Engine x ≤ 16 * (1 + x.wt) := by
  have h0 := cb_EntrySS x.yard.shelf; have h1 := cb_RunS x.yard.runs; have h2 := cb_FileS x.disk.files; have h3 := cb_WaitS x.waits; simp only [neE_Engine, Plan.wt, Run.wt, Yard.wt, Deed.wt, Note.wt, File.wt, Disk.wt, Engine.wt, WorldD.wt, ActD.wt, Span.wt, Crew.wt] at *; omega
theorem nt_Engine (x : Engine) : ntT_Engine x ≤ 16 * x.wt := by
  have h0 := nt_Yard x.yard; have h1 := nt_Disk x.disk; have h4 := cb_WaitS x.waits; unfold ntT_Engine; have hw : x.wt = x.yard.wt + x.disk.wt + x.waits.length := rfl; omega
theorem cb_EngineS (xs : List Engine) : cL neE_Engine xs ≤ 16 * (wtL (fun y : Engine => y.wt) xs) := cL_bound (n := neE_Engine) (f := fun y : Engine => y.wt) (fun y => nb_Engine y) xs
theorem nb_World (x : WorldD) : neE_World x ≤ 16 * (1 + x.wt) := by
  have h0 := cb_EntrySS x.engine.yard.shelf; have h1 := cb_RunS x.engine.yard.runs; have h2 := cb_FileS x.engine.disk.files; have h3 := cb_WaitS x.engine.waits; have h4 := cb_DeedS x.deeds; have h5 := cb_ReplyS x.replies; simp only [neE_World, Plan.wt, Run.wt, Yard.wt, Deed.wt, Note.wt, File.wt, Disk.wt, Engine.wt, WorldD.wt, ActD.wt, Span.wt, Crew.wt] at *; omega
theorem nt_World (x : WorldD) : ntT_World x ≤ 16 * x.wt := by
  have h0 := nt_Engine x.engine; have h1 := cb_DeedS x.deeds; have h2 := cb_ReplyS x.replies; unfold ntT_World; have hw : x.wt = x.engine.wt + (wtL (fun y : Deed => y.wt) x.deeds) + x.replies.length := rfl; omega
theorem cb_WorldS (xs : List WorldD) : cL neE_World xs ≤ 16 * (wtL (fun y : WorldD => y.wt) xs) := cL_bound (n := neE_World) (f := fun y : WorldD => y.wt) (fun y => nb_World y) xs
theorem cb_IntS (xs : List Int) : cL neI xs ≤ 16 * xs.length := Nat.le_trans (cL_flat (n := neI) (c := 16) (fun y => by simp [neI]) xs) (Nat.le_refl _)
theorem nb_Act (x : ActD) : neE_Act x ≤ 16 * (1 + x.wt) := by
  have h0 := cb_EdgeS x.deed.plan.edges; have h1 := cb_IntS x.keep; simp only [neE_Act, Plan.wt, Run.wt, Yard.wt, Deed.wt, Note.wt, File.wt, Disk.wt, Engine.wt, WorldD.wt, ActD.wt, Span.wt, Crew.wt] at *; omega
theorem nt_Act (x : ActD) : ntT_Act x ≤ 16 * x.wt := by
  have h1 := nt_Deed x.deed; have h3 := cb_IntS x.keep; unfold ntT_Act; have hw : x.wt = x.deed.wt + x.keep.length := rfl; omega
theorem cb_ActS (xs : List ActD) : cL neE_Act xs ≤ 16 * (wtL (fun y : ActD => y.wt) xs) := cL_bound (n := neE_Act) (f := fun y : ActD => y.wt) (fun y => nb_Act y) xs
theorem cb_HandS (xs : List Hand) : cL neE_Hand xs ≤ 16 * xs.length := Nat.le_trans (cL_flat (n := neE_Hand) (c := 16) (fun y => by simp [neE_Hand]) xs) (Nat.le_refl _)
theorem nb_Span (x : Span) : neE_Span x ≤ 16 * (1 + x.wt) := by
  have h0 := cb_EdgeS x.deed.plan.edges; simp only [neE_Span, Plan.wt, Run.wt, Yard.wt, Deed.wt, Note.wt, File.wt, Disk.wt, Engine.wt, WorldD.wt, ActD.wt, Span.wt, Crew.wt] at *; omega
theorem nt_Span (x : Span) : ntT_Span x ≤ 16 * x.wt := by
  have h0 := nt_Deed x.deed; unfold ntT_Span; have hw : x.wt = x.deed.wt := rfl; omega
theorem cb_SpanS (xs : List Span) : cL neE_Span xs ≤ 16 * (wtL (fun y : Span => y.wt) xs) := cL_bound (n := neE_Span) (f := fun y : Span => y.wt) (fun y => nb_Span y) xs
theorem nb_Crew (x : Crew) : neE_Crew x ≤ 16 * (1 + x.wt) := by
  have h0 := cb_EntrySS x.yard.shelf; have h1 := cb_RunS x.yard.runs; have h2 := cb_ReplyS x.holds; simp only [neE_Crew, Plan.wt, Run.wt, Yard.wt, Deed.wt, Note.wt, File.wt, Disk.wt, Engine.wt, WorldD.wt, ActD.wt, Span.wt, Crew.wt] at *; omega
theorem nt_Crew (x : Crew) : ntT_Crew x ≤ 16 * x.wt := by
  have h0 := nt_Yard x.yard; have h1 := cb_ReplyS x.holds; unfold ntT_Crew; have hw : x.wt = x.yard.wt + x.holds.length := rfl; omega
theorem cb_CrewS (xs : List Crew) : cL neE_Crew xs ≤ 16 * (wtL (fun y : Crew => y.wt) xs) := cL_bound (n := neE_Crew) (f := fun y : Crew => y.wt) (fun y => nb_Crew y) xs
theorem cb_ViewS (xs : List View) : cL neE_View xs ≤ 16 * xs.length := Nat.le_trans (cL_flat (n := neE_View) (c := 16) (fun y => by simp [neE_View]) xs) (Nat.le_refl _)
end Go.Proofs.Ytchnllpegfbleaa
