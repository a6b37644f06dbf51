/-
  Literals of several elements; flat structs compared.
-/
import Derived.Test.YtchnllpegfbleaaDoorLend
import Derived.Test.YtchnllpegfbleaaDoorSxOne
import Derived.Laws.StructEq
namespace Go.Proofs.YtchnllpegfbleaaDoor
set_option linter.unusedSimpArgs false
set_option linter.unusedVariables false
set_option maxRecDepth 100000
open Go.RowKit

def litFrom (k : Nat) : List Value → List (Nat × Value)
  | [] => []
  | v :: vs => (k, v) :: litFrom (k + 1) vs
def OneCells : List Value → Prop
  | [] => True
  | v :: vs => v.cells = #[v] ∧ OneCells vs
theorem lc_nil : OneCells [] := trivial
theorem lc_cons {v : Value} {vs : List Value} (h : v.cells = #[v]) (hs : OneCells vs) : OneCells (v :: vs) := ⟨h, hs⟩
theorem fill_lit : ∀ (vs : List Value) (k : Nat) (A : Array Value), k + vs.length = A.size → OneCells vs → Instr.fill (fun j => some (j * 1, 1)) A (litFrom k vs) = some (A.extract 0 k ++ vs.toArray)
  | [], k, A, h, _ => by
    simp at h
    simp only [litFrom, Instr.fill]
    congr 1
    simp [h]
  | v :: vs, k, A, h, ⟨h1, h2⟩ => by
    simp only [List.length_cons] at h
    have hs1 : v.cells.size = 1 := by rw [h1]; rfl
    have hc : ¬ (v.cells.size ≠ 1 ∨ k * 1 + v.cells.size > A.size) := by omega
    simp only [litFrom, Instr.fill]
    simp only [Bool.or_eq_true, decide_eq_true_eq] at hc ⊢
    rw [if_neg (by simpa using hc)]
    have hf : (v.cells.zipIdx.foldl (fun acc (x : Value × Nat) => acc.setIfInBounds (k * 1 + x.2) x.1) A) = A.setIfInBounds k v := by
      rw [h1, Nat.mul_one]
      rfl
    rw [hf, fill_lit vs (k + 1) _ (by simp; omega) h2]
    congr 1
    have e1 : (A.setIfInBounds k v).extract 0 (k + 1) = A.extract 0 k ++ #[v] := by
      apply Array.ext'
      have ho : k < A.toList.length := by rw [Array.length_toList]; omega
      simp only [Array.toList_extract, Array.toList_setIfInBounds, Array.toList_append, List.extract_eq_take_drop, List.drop_zero, Nat.sub_zero]
      rw [List.take_succ_eq_append_getElem (by rw [List.length_set]; exact ho), List.getElem_set_self]
      congr 1
      rw [List.take_set_of_le (Nat.le_refl _)]
    rw [e1, Array.append_assoc]
    congr 1
    simp
/-- A literal of elements of one cell each. -/
theorem run_buildSliceN {P : Program} {t e : TypeId} {α : Type} [Shape α] {bytes : Nat} (hT : ApOk P t e α bytes) (W : World) (hs : Shape.size α = 1) {vs : List Value} (hv : OneCells vs) (hl : Nat.ble vs.length 1000 = true := by rfl) :
    (Instr.buildSlice t vs.length (litFrom 0 vs).toArray).run P W = .ok (.slice (some ⟨W.heap.size, 0, none⟩) vs.length vs.length) (W.alloc (.cells vs.toArray e)) := by
  obtain ⟨i, z, hi, hz, h1, h2, h3⟩ := hT.info
  rw [hs] at h1 h3
  have hl := Nat.le_of_ble_eq_true hl
  have hbig : ¬ (vs.length * i.size > 2 ^ 24) := by rw [h1]; omega
  by_cases hn : vs.length = 0
  · have : vs = [] := List.eq_nil_of_length_eq_zero hn
    subst this
    exact run_buildSlice0 hT W
  have hn0 : ¬ (vs.length * i.size = 0) := by rw [h1]; omega
  have hzs : ((Array.range (vs.length * i.size)).map (fun k => z.cells[k % z.cells.size]!)).size = vs.length := by simp [h1]
  have hf : Instr.fill (fun j => some (j * i.size, i.size)) ((Array.range (vs.length * i.size)).map (fun k => z.cells[k % z.cells.size]!)) (litFrom 0 vs) = some vs.toArray := by
    rw [h1]
    rw [h1] at hzs
    rw [fill_lit vs 0 _ (by rw [hzs]; simp) hv]
    simp
  simp only [Instr.buildSlice, Sem.run_bind, run_underlying hT.desc, Result.andThen_ok, sizeOf, typeInfo, run_program, hi, Sem.run_pure, hbig, if_false, hn0, zeroValue, hz, hf, newRow, run_newObj]
  rfl
/-- A literal, as a row that may be appended to. -/
theorem St.row_lit {α : Type} [Shape α] {w0 W : World} {rs : List Res} {b m : Nat} {cells : List Value} {e : TypeId} {ys : List α} (h : St w0 W (Res.bx b cells e :: rs)) (hl : ys.length = m) (hm : m ≤ maxLen) (hn : Elems W cells ys []) :
    St w0 W (Res.row e (.slice (some ⟨b, 0, none⟩) m m) ys [] :: rs) := by
  subst hl
  have hb : W.heap[b]? = some (.cells cells.toArray e (0, 0)) := h.get 0 rfl
  have hlen := hn.len
  refine h.turn rfl rfl rfl (Nat.le_refl _) (fun _ _ _ => rfl) ⟨⟨cells, ⟨by rw [hlen], .inr ⟨b, ys.length, cells.toArray, rfl, Nat.zero_le _, hb, Nat.le_refl _, hm, by simp [hlen], by rw [← hlen]; simp⟩⟩, hn⟩, by simp⟩ (by simp [Res.row, Value.ownBlock]) (fun c hc => .inl (by simpa [Res.row, Res.bx, Value.ownBlock] using hc))

theorem Elems.i0 {W : World} : Elems W [] ([] : List Int) [] := ⟨rfl, rfl⟩
theorem Elems.ic {W : World} {y : Int} {cs : List Value} {ys : List Int} (h : I64 y) (hs : Elems W cs ys []) : Elems W (I y :: cs) (y :: ys) [] := ⟨[I y], cs, [], [], rfl, ⟨rfl, rfl, h⟩, hs, rfl⟩
/-! ### Flat structs compared -/
def SEq (P : Program) (t : TypeId) (cs ds : List Value) (b : Bool) : Prop := ∀ W, (Op.equalIn 10000 t (.agg cs.toArray) (.agg ds.toArray)).run P W = .ok b W
section
variable {P : Program} {n : Nat} {f : Nat → Value} {W : World} {Q : Exit → Act → World → Prop} {K : Value → World → Prop} {d : Option Tmp} {ty : TypeId} {pos : String} {af : Array Go.Edge} {g : Option (Nat × Bool)} {x y : Operand} {t t' : TypeId}
theorem stp_aeql {cs ds : List Value} {b : Bool} (hs : SEq P t cs ds b) (hg : P.eqGuardType P.depth t = false) (hx : ev n f x = .agg cs.toArray) (hy : ev n f y = .agg ds.toArray) (k : K (.bool b) W) : Stp P n ⟨d, .binOp .eql t x y t', ty, pos, af, g⟩ f W Q K :=
  Stp.run (v := .bool b) (by simp only [execOp, hx, hy, Sem.run_bind, run_eqGuard_agg (hm := hg), Result.andThen_ok, run_eql_struct, hs W]; rfl) k
theorem stp_aneq {cs ds : List Value} {b : Bool} (hs : SEq P t cs ds b) (hg : P.eqGuardType P.depth t = false) (hx : ev n f x = .agg cs.toArray) (hy : ev n f y = .agg ds.toArray) (k : K (.bool (!b)) W) : Stp P n ⟨d, .binOp .neq t x y t', ty, pos, af, g⟩ f W Q K :=
  Stp.run (v := .bool (!b)) (by simp only [execOp, hx, hy, Sem.run_bind, run_eqGuard_agg (hm := hg), Result.andThen_ok, run_neq_struct, hs W]; rfl) k
end
theorem eg_Edge : Tryd.prog.eqGuardType Tryd.prog.depth 75 = false := by kernel_rfl
set_option maxHeartbeats 1000000 in
theorem se_Edge (x y : Edge) : SEq Tryd.prog 75 x.cells y.cells (eqB x y) := by
  intro W
  rw [run_equalIn_agg (d := 9999) (ht := Tryd.underlying75) (hp := by kernel_rfl)]
  cases x; cases y
  simp [Op.eqFields, Program.fieldsOf, Tryd.underlying75, go_sem, part, Edge.cells, eqB]
  (repeat' split) <;> simp_all
theorem eg_Task : Tryd.prog.eqGuardType Tryd.prog.depth 66 = false := by kernel_rfl
set_option maxHeartbeats 1000000 in
theorem se_Task (x y : Task) : SEq Tryd.prog 66 x.cells y.cells (eqB x y) := by
  intro W
  rw [run_equalIn_agg (d := 9999) (ht := Tryd.underlying66) (hp := by kernel_rfl)]
  cases x; cases y
  simp [Op.eqFields, Program.fieldsOf, Tryd.underlying66, go_sem, part, Task.cells, eqB]
  (repeat' split) <;> simp_all
theorem eg_Reply : Tryd.prog.eqGuardType Tryd.prog.depth 25 = false := by kernel_rfl
set_option maxHeartbeats 1000000 in
theorem se_Reply (x y : Reply) : SEq Tryd.prog 25 x.cells y.cells (eqB x y) := by
  intro W
  rw [run_equalIn_agg (d := 9999) (ht := Tryd.underlying25) (hp := by kernel_rfl)]
  cases x; cases y
  simp [Op.eqFields, Program.fieldsOf, Tryd.underlying25, go_sem, part, Reply.cells, eqB]
  (repeat' split) <;> simp_all
end Go.Proofs.YtchnllpegfbleaaDoor
