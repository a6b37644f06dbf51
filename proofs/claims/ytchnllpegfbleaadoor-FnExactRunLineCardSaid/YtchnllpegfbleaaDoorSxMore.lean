/-
  More laws of single operations.
-/
import Derived.Test.YtchnllpegfbleaaDoorSxAny
namespace Go.Proofs.YtchnllpegfbleaaDoor
set_option linter.unusedSimpArgs false
set_option linter.unusedVariables false
open Go.RowKit

theorem bnot_t {b : Bool} (h : (!b) = true) : b = false := by cases b <;> simp_all
theorem bnot_f {b : Bool} (h : (!b) = false) : b = true := by cases b <;> simp_all
theorem inB_iff' {n a b : Int} : inB n a b = true ↔ (a ≤ n ∧ n ≤ b) := by simp [inB]
theorem inB_not {n a b : Int} (h : inB n a b = false) : ¬ (a ≤ n ∧ n ≤ b) := by intro h'; rw [inB_iff'.2 h'] at h; cases h
theorem Sl.one {α : Type} [Shape α] {w : World} {v : Value} {xs : List α} {fp : List Nat} (h : Sl w v xs fp) : v.oneCell' = true := by obtain ⟨_, _, rfl, _⟩ := h; rfl
theorem Sl.yl {α : Type} [Shape α] {w : World} {v : Value} {xs : List α} {fp : List Nat} (h : Sl w v xs fp) : Go.Proofs.YtchnllpegfbleaaDoor.yl v = none := by obtain ⟨_, _, rfl, _⟩ := h; rfl
theorem Sl.cells {α : Type} [Shape α] {w : World} {v : Value} {xs : List α} {fp : List Nat} (h : Sl w v xs fp) : v.cells = #[v] := by obtain ⟨_, _, rfl, _⟩ := h; rfl
theorem nil_Sl {α : Type} [Shape α] {w : World} : Sl w (.slice none 0 0) ([] : List α) [] := ⟨none, 0, rfl, Nat.le_refl _, by omega, .inl ⟨rfl, rfl⟩⟩
theorem Elems.ints {W : World} : ∀ (ys : List Int), (∀ y ∈ ys, I64 y) → Elems W (ys.map I) ys []
  | [], _ => ⟨rfl, rfl⟩
  | y :: ys, h => ⟨[I y], ys.map I, [], [], rfl, ⟨rfl, rfl, h y (by simp)⟩, Elems.ints ys (fun z hz => h z (by simp [hz])), rfl⟩
theorem Elems.int1 {W : World} {y : Int} (h : I64 y) : Elems W [I y] [y] [] := Elems.ints [y] (by simpa using h)
/-- A struct, as one element. -/
theorem Elems.one1 {α : Type} [Shape α] {W : World} {x : α} {cs : List Value} (h : Shape.C W cs x []) : Elems W cs [x] [] := ⟨cs, [], [], [], by simp, h, ⟨rfl, rfl⟩, by simp⟩

section
variable {P : Program} {n : Nat} {f : Nat → Value} {W : World} {Q : Exit → Act → World → Prop} {K : Value → World → Prop} {d : Option Tmp} {ty : TypeId} {pos : String} {af : Array Edge} {g : Option (Nat × Bool)} {x y : Operand} {t t' : TypeId}
theorem stp_beql {a b : Bool} (hu : P.underlying t = some .bool) (hx : ev n f x = .bool a) (hy : ev n f y = .bool b) (k : K (.bool (a == b)) W) : Stp P n ⟨d, .binOp .eql t x y t', ty, pos, af, g⟩ f W Q K :=
  Stp.run (v := .bool (a == b)) (by simp only [execOp, hx, hy, eqGuard_at_bool, Sem.run_bind, Sem.run_pure, Result.andThen_ok, run_eql_bool (h := hu)]) k
theorem stp_bneq {a b : Bool} (hu : P.underlying t = some .bool) (hx : ev n f x = .bool a) (hy : ev n f y = .bool b) (k : K (.bool (!(a == b))) W) : Stp P n ⟨d, .binOp .neq t x y t', ty, pos, af, g⟩ f W Q K :=
  Stp.run (v := .bool (!(a == b))) (by simp only [execOp, hx, hy, eqGuard_at_bool, Sem.run_bind, Sem.run_pure, Result.andThen_ok, run_neq_bool (h := hu)]) k
end
theorem Sl.len_le {α : Type} [Shape α] {w : World} {v : Value} {xs : List α} {fp : List Nat} (h : Sl w v xs fp) : xs.length ≤ 9223372036854775807 := by obtain ⟨_, _, _, h1, h2, _⟩ := h; omega
theorem then_ret {K : Act → World → Prop} {Q : Exit → Act → World → Prop} {a : Act} {w : World} (h : Q .ret a w) : Exit.then K Q .ret a w := h
theorem blk_ret {id : Nat} {Q : Exit → Act → World → Prop} {a : Act} {w : World} (h : Q .ret a w) : Exit.inBlock id Q .ret a w := h
theorem one_nil : ∀ v ∈ ([] : List Value), v.oneCell' = true := by simp
theorem one_cons {v : Value} {vs : List Value} (h : v.oneCell' = true) (hs : ∀ v ∈ vs, v.oneCell' = true) : ∀ u ∈ v :: vs, u.oneCell' = true := by
  intro u hu
  rcases List.mem_cons.1 hu with rfl | hu
  · exact h
  · exact hs u hu
theorem fill_one (z cs : Array Value) (h : z.size = cs.size) : ((cs.zipIdx.foldl (fun acc (c, j) => acc.setIfInBounds (0 + j) c) z)) = cs := by
  rw [← Array.foldl_toList]
  have key : ∀ (l : List Value) (o : Nat) (A : Array Value), o + l.length = A.size → (l.zipIdx o).foldl (fun (acc : Array Value) (p : Value × Nat) => acc.setIfInBounds (0 + p.2) p.1) A = A.extract 0 o ++ l.toArray := by
    intro l
    induction l with
    | nil => intro o A h; simp at h; subst h; simp
    | cons v l ih =>
      intro o A h
      rw [List.zipIdx_cons, List.foldl_cons, ih (o + 1) _ (by simp at h ⊢; omega)]
      simp only [List.length_cons] at h
      have e1 : (A.setIfInBounds (0 + o) v).extract 0 (o + 1) = A.extract 0 o ++ #[v] := by
        apply Array.ext'
        have ho : o < A.toList.length := by rw [Array.length_toList]; omega
        simp only [Array.toList_extract, Array.toList_setIfInBounds, Array.toList_append, Nat.zero_add, List.extract_eq_take_drop, List.drop_zero, Nat.sub_zero]
        rw [List.take_succ_eq_append_getElem (by rw [List.length_set]; exact ho), List.getElem_set_self]
        congr 1
        rw [List.take_set_of_le (Nat.le_refl _)]
      rw [e1, Array.append_assoc]
      congr 1
      simp
  have := key cs.toList 0 z (by simp [h])
  have e : cs.zipIdx.toList = cs.toList.zipIdx 0 := by simp
  rw [e]
  simpa using this
theorem run_buildSlice1 {P : Program} {t e : TypeId} {α : Type} [Shape α] {bytes : Nat} (hT : ApOk P t e α bytes) (W : World) (v : Value) {cs : List Value} (hv : v.cells = cs.toArray) (hl : cs.length = Shape.size α) (hs : Shape.size α ≤ 1000) :
    (Instr.buildSlice t 1 #[(0, v)]).run P W = .ok (.slice (some ⟨W.heap.size, 0, none⟩) 1 1) (W.alloc (.cells cs.toArray e)) := by
  obtain ⟨i, z, hi, hz, h1, h2, h3⟩ := hT.info
  have hp := hT.pos
  have hn0 : ¬ (1 * i.size = 0) := by omega
  have hbig : ¬ (1 * i.size > 2 ^ 24) := by rw [h1]; omega
  have hzs : ((Array.range (1 * i.size)).map (fun k => z.cells[k % z.cells.size]!)).size = cs.length := by simp [h1, hl]
  have hf : Instr.fill (fun j => some (j * i.size, i.size)) ((Array.range (1 * i.size)).map (fun k => z.cells[k % z.cells.size]!)) [(0, v)] = some cs.toArray := by
    simp only [Instr.fill]
    have hc1 : ¬ (v.cells.size ≠ i.size ∨ 0 * i.size + v.cells.size > ((Array.range (1 * i.size)).map (fun k => z.cells[k % z.cells.size]!)).size) := by
      rw [hzs, hv]; simp [hl, h1]
    simp only [Bool.or_eq_true, decide_eq_true_eq] at hc1 ⊢
    rw [if_neg hc1]
    congr 1
    rw [hv, Nat.zero_mul]
    exact fill_one _ _ (by rw [hzs]; simp)
  simp only [Instr.buildSlice, Sem.run_bind, run_underlying hT.desc, Result.andThen_ok, sizeOf, typeInfo, run_program, hi, Sem.run_pure, hbig, if_false, hn0, zeroValue, hz, hf, newRow, run_newObj]
  rfl
theorem run_buildSlice0 {P : Program} {t e : TypeId} {α : Type} [Shape α] {bytes : Nat} (hT : ApOk P t e α bytes) (W : World) :
    (Instr.buildSlice t 0 #[]).run P W = .ok (.slice (some ⟨W.heap.size, 0, none⟩) 0 0) (W.alloc (.cells [].toArray e)) := by
  obtain ⟨i, z, hi, hz, h1, h2, h3⟩ := hT.info
  simp [Instr.buildSlice, Sem.run_bind, run_underlying hT.desc, Result.andThen_ok, sizeOf, typeInfo, run_program, hi, Sem.run_pure, Instr.fill, newRow, run_newObj]
  congr 1
  simp [Array.range_zero']
end Go.Proofs.YtchnllpegfbleaaDoor
