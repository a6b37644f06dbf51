/-
  The laws of single operations, over any program.
-/
import Derived.Test.YtchnllpegfbleaaDoorSx
namespace Go.Proofs.YtchnllpegfbleaaDoor
set_option linter.unusedSimpArgs false
set_option linter.unusedVariables false
open Go.RowKit

section
variable {P : Program} {n : Nat} {f : Nat → Value} {W : World} {Q : Exit → Act → World → Prop} {K : Value → World → Prop}
  {d : Option Tmp} {ty : TypeId} {pos : String} {af : Array Edge} {g : Option (Nat × Bool)}

theorem stp_move {x : Operand} {v : Value} (hx : ev n f x = v) (k : K v W) : Stp P n ⟨d, .move x, ty, pos, af, g⟩ f W Q K :=
  Stp.run (v := v) (by simp [execOp, hx]) k
theorem stp_assign {x : Operand} {v : Value} (hx : ev n f x = v) (k : K v W) : Stp P n ⟨d, .assign x, ty, pos, af, g⟩ f W Q K :=
  Stp.run (v := v) (by simp [execOp, hx]) k
theorem stp_pick_t {c a b : Operand} {v : Value} (hc : ev n f c = .bool true) (hx : ev n f a = v) (k : K v W) : Stp P n ⟨d, .pick c a b, ty, pos, af, g⟩ f W Q K :=
  Stp.run (v := v) (by simp [execOp, hx, hc, asBool]) k
theorem stp_pick_f {c a b : Operand} {v : Value} (hc : ev n f c = .bool false) (hx : ev n f b = v) (k : K v W) : Stp P n ⟨d, .pick c a b, ty, pos, af, g⟩ f W Q K :=
  Stp.run (v := v) (by simp [execOp, hx, hc, asBool]) k

/-! ### Numbers -/
theorem wrap_I64 {a : Int} (h : I64 a) : IntKind.i64.wrap a = a := by
  unfold I64 at h
  simp [IntKind.wrap, IntKind.bits, IntKind.signed]
  omega
theorem stp_add {x y : Operand} {t t' : TypeId} {a b : Int} (hx : ev n f x = I a) (hy : ev n f y = I b) (h : I64 (a + b)) (k : K (I (a + b)) W) : Stp P n ⟨d, .binOp .add t x y t', ty, pos, af, g⟩ f W Q K :=
  Stp.run (v := I (a + b)) (by simp [execOp, hx, hy, go_sem, Op.intArith, wrap_I64 h]) k
theorem stp_sub {x y : Operand} {t t' : TypeId} {a b : Int} (hx : ev n f x = I a) (hy : ev n f y = I b) (h : I64 (a - b)) (k : K (I (a - b)) W) : Stp P n ⟨d, .binOp .sub t x y t', ty, pos, af, g⟩ f W Q K :=
  Stp.run (v := I (a - b)) (by simp [execOp, hx, hy, go_sem, Op.intArith, wrap_I64 h]) k
theorem stp_mul {x y : Operand} {t t' : TypeId} {a b : Int} (hx : ev n f x = I a) (hy : ev n f y = I b) (h : I64 (a * b)) (k : K (I (a * b)) W) : Stp P n ⟨d, .binOp .mul t x y t', ty, pos, af, g⟩ f W Q K :=
  Stp.run (v := I (a * b)) (by simp [execOp, hx, hy, go_sem, Op.intArith, wrap_I64 h]) k
theorem stp_eql {x y : Operand} {t t' : TypeId} {a b : Int} (hx : ev n f x = I a) (hy : ev n f y = I b) (k : K (.bool (decide (a = b))) W) : Stp P n ⟨d, .binOp .eql t x y t', ty, pos, af, g⟩ f W Q K :=
  Stp.run (v := .bool (decide (a = b))) (by simp [execOp, hx, hy, go_sem]; rfl) k
theorem stp_neq {x y : Operand} {t t' : TypeId} {a b : Int} (hx : ev n f x = I a) (hy : ev n f y = I b) (k : K (.bool (!decide (a = b))) W) : Stp P n ⟨d, .binOp .neq t x y t', ty, pos, af, g⟩ f W Q K :=
  Stp.run (v := .bool (!decide (a = b))) (by simp [execOp, hx, hy, go_sem, bne]; rfl) k
theorem stp_lss {x y : Operand} {t t' : TypeId} {a b : Int} (hx : ev n f x = I a) (hy : ev n f y = I b) (k : K (.bool (decide (a < b))) W) : Stp P n ⟨d, .binOp .lss t x y t', ty, pos, af, g⟩ f W Q K :=
  Stp.run (v := .bool (decide (a < b))) (by simp [execOp, hx, hy, go_sem]) k
theorem stp_leq {x y : Operand} {t t' : TypeId} {a b : Int} (hx : ev n f x = I a) (hy : ev n f y = I b) (k : K (.bool (decide (a ≤ b))) W) : Stp P n ⟨d, .binOp .leq t x y t', ty, pos, af, g⟩ f W Q K :=
  Stp.run (v := .bool (decide (a ≤ b))) (by simp [execOp, hx, hy, go_sem]) k
theorem stp_gtr {x y : Operand} {t t' : TypeId} {a b : Int} (hx : ev n f x = I a) (hy : ev n f y = I b) (k : K (.bool (decide (b < a))) W) : Stp P n ⟨d, .binOp .gtr t x y t', ty, pos, af, g⟩ f W Q K :=
  Stp.run (v := .bool (decide (b < a))) (by simp [execOp, hx, hy, go_sem]) k
theorem stp_geq {x y : Operand} {t t' : TypeId} {a b : Int} (hx : ev n f x = I a) (hy : ev n f y = I b) (k : K (.bool (decide (b ≤ a))) W) : Stp P n ⟨d, .binOp .geq t x y t', ty, pos, af, g⟩ f W Q K :=
  Stp.run (v := .bool (decide (b ≤ a))) (by simp [execOp, hx, hy, go_sem]) k
theorem stp_not {x : Operand} {t : TypeId} {b : Bool} (hx : ev n f x = .bool b) (k : K (.bool (!b)) W) : Stp P n ⟨d, .unOp .not t x, ty, pos, af, g⟩ f W Q K :=
  Stp.run (v := .bool (!b)) (by simp [execOp, hx, go_sem, Op.unary]) k

/-! ### Types -/
/-- A field lies so many cells behind the struct's first. -/
def FieldOk (P : Program) (t : TypeId) (i off : Nat) : Prop := ∀ b o W, (Instr.fieldAt t (.pointer (some ⟨b, o, none⟩)) i).run P W = .ok (.pointer (some ⟨b, o + off, none⟩)) W
theorem fieldOk {t : TypeId} {i off : Nat} {fs : Array Field} {fd : Field} (hu : P.underlying t = some (.struct fs)) (hf : fs[i]? = some fd) (ho : fd.offset = off) (hz : ((P.info? fd.type).map (fun j => decide (j.size = 0))) = some false) : FieldOk P t i off := by
  subst ho
  intro b o W
  cases hq : P.info? fd.type with
  | none => simp [hq] at hz
  | some j =>
    have hj : ¬ j.size = 0 := by simpa [hq] using hz
    simp [Instr.fieldAt, hu, hf, Sem.run_bind, Instr.sureAddr, run_underlying hu, fieldPlace, Addr.add, sizeOf, typeInfo, hq, hj, go_sem]
/-- Whether a type's values are rows of cells. -/
class Agg (α : Type) where
  agg : Bool
instance : Agg Int := ⟨false⟩
instance : Agg Bool := ⟨false⟩
instance : Agg ByteArray := ⟨false⟩
instance {α : Type} : Agg (List α) := ⟨false⟩
def val (α : Type) [Agg α] (cs : List Value) : Value := cond (Agg.agg α) (.agg cs.toArray) (cs.headD undef)
/-- A value that stands for x. -/
def V {α : Type} [Shape α] [Agg α] (w : World) (v : Value) (x : α) (fp : List Nat) : Prop := ∃ cs, v = val α cs ∧ Shape.C w cs x fp
/-- The cells from offset o of block b on stand for x. -/
def At {α : Type} [Shape α] (w : World) (b o : Nat) (x : α) (fp : List Nat) : Prop := ∃ cs, w.rangeAt b o cs ∧ Shape.C w cs x fp
/-- Type t of the program is α. -/
structure TyOk (P : Program) (t : TypeId) (α : Type) [Shape α] [Agg α] : Prop where
  size : (P.info? t).map (·.size) = some (Shape.size α)
  one : Agg.agg α = false → Shape.size α = 1
  desc : ∃ ds, P.underlying t = some ds ∧ (cond (Agg.agg α) (∃ fs, ds = .struct fs) (ds.isRow = false))
theorem TyOk.load {t : TypeId} {α : Type} [Shape α] [Agg α] (h : TyOk P t α) {b o : Nat} {cs : List Value} (hr : W.rangeAt b o cs) (hl : cs.length = Shape.size α) :
    (Instr.loadAt t (.pointer (some ⟨b, o, none⟩))).run P W = .ok (val α cs) W := by
  obtain ⟨ds, hu, hd⟩ := h.desc
  cases ha : Agg.agg α with
  | true =>
    rw [ha] at hd
    obtain ⟨fs, rfl⟩ := hd
    rw [run_loadAt_mid W b o t cs _ hr hu rfl (by rw [h.size, hl])]
    simp [val, ha]
  | false =>
    rw [ha] at hd
    have h1 := h.one ha
    obtain ⟨v, rfl⟩ : ∃ v, cs = [v] := by
      match cs, hl with
      | [v], _ => exact ⟨v, rfl⟩
      | [], h => simp [h1] at h
      | _ :: _ :: _, h => simp [h1] at h
    have hc := hr 0 v rfl
    have hagg : (isAgg t).run P W = .ok false W := by
      unfold isAgg
      rw [Sem.run_bind, run_underlying hu W]
      have hd' : ds.isRow = false := hd
      cases ds <;> simp_all [TypeDesc.isRow]
    simp only [Nat.add_zero] at hc
    simp [Instr.loadAt, Instr.sureAddr, Sem.run_bind, loadVar, hagg, hc, val, ha]

theorem stp_fieldAddr {x : Operand} {t : TypeId} {i off b o : Nat} (hF : FieldOk P t i off) (hx : ev n f x = .pointer (some ⟨b, o, none⟩)) (k : K (.pointer (some ⟨b, o + off, none⟩)) W) : Stp P n ⟨d, .fieldAddr t x i, ty, pos, af, g⟩ f W Q K :=
  Stp.run (v := .pointer (some ⟨b, o + off, none⟩)) (by simp [execOp, hx, hF b o W, Sem.run_bind]) k
theorem At.below {α : Type} [Shape α] {w w' : World} {b o : Nat} {x : α} {fp : List Nat} (h : At w b o x fp) (hb : Below w.heap.size w w') : At w' b o x fp := by
  obtain ⟨cs, hr, hc⟩ := h
  exact ⟨cs, rangeAt_below hr hb, C_below hc hb⟩
theorem V.below {α : Type} [Shape α] [Agg α] {w w' : World} {v : Value} {x : α} {fp : List Nat} (h : V w v x fp) (hb : Below w.heap.size w w') : V w' v x fp := by
  obtain ⟨cs, hr, hc⟩ := h
  exact ⟨cs, hr, C_below hc hb⟩
/-- What lay there in an earlier world w lies there yet. -/
theorem stp_load {x : Operand} {t : TypeId} {α : Type} [Shape α] [Agg α] {w : World} {b o : Nat} {y : α} {fp : List Nat} (hT : TyOk P t α) (hx : ev n f x = .pointer (some ⟨b, o, none⟩)) (hA : At w b o y fp) (hb : Below w.heap.size w W) (k : ∀ v, V w v y fp → K v W) : Stp P n ⟨d, .load t x, ty, pos, af, g⟩ f W Q K := by
  obtain ⟨cs, hr, hc⟩ := hA
  refine Stp.run (v := val α cs) ?_ (k _ ⟨cs, rfl, hc⟩)
  simp [execOp, hx, hT.load (rangeAt_below hr hb) (Shape.len hc), Sem.run_bind]

theorem V_int {w : World} {v : Value} {x : Int} {fp : List Nat} (h : V w v x fp) : v = I x := by obtain ⟨_, rfl, rfl, _⟩ := h; rfl
theorem V_bool {w : World} {v : Value} {x : Bool} {fp : List Nat} (h : V w v x fp) : v = .bool x := by obtain ⟨_, rfl, rfl, _⟩ := h; rfl
theorem V_str {w : World} {v : Value} {x : ByteArray} {fp : List Nat} (h : V w v x fp) : v = .string x := by obtain ⟨_, rfl, rfl, _⟩ := h; rfl
theorem V_sl {w : World} {α : Type} [Shape α] {v : Value} {x : List α} {fp : List Nat} (h : V w v x fp) : Sl w v x fp := by obtain ⟨_, rfl, _, rfl, h⟩ := h; exact h
theorem Sl.v {w : World} {α : Type} [Shape α] {v : Value} {x : List α} {fp : List Nat} (h : Sl w v x fp) : V w v x fp := ⟨[v], rfl, v, rfl, h⟩
theorem stp_load_int {x : Operand} {t : TypeId} {w : World} {b o : Nat} {y : Int} {fp : List Nat} (hT : TyOk P t Int) (hx : ev n f x = .pointer (some ⟨b, o, none⟩)) (hA : At w b o y fp) (hb : Below w.heap.size w W) (k : K (I y) W) : Stp P n ⟨d, .load t x, ty, pos, af, g⟩ f W Q K :=
  stp_load hT hx hA hb (fun v hv => by rw [V_int hv]; exact k)
theorem stp_load_bool {x : Operand} {t : TypeId} {w : World} {b o : Nat} {y : Bool} {fp : List Nat} (hT : TyOk P t Bool) (hx : ev n f x = .pointer (some ⟨b, o, none⟩)) (hA : At w b o y fp) (hb : Below w.heap.size w W) (k : K (.bool y) W) : Stp P n ⟨d, .load t x, ty, pos, af, g⟩ f W Q K :=
  stp_load hT hx hA hb (fun v hv => by rw [V_bool hv]; exact k)
theorem stp_load_str {x : Operand} {t : TypeId} {w : World} {b o : Nat} {y : ByteArray} {fp : List Nat} (hT : TyOk P t ByteArray) (hx : ev n f x = .pointer (some ⟨b, o, none⟩)) (hA : At w b o y fp) (hb : Below w.heap.size w W) (k : K (.string y) W) : Stp P n ⟨d, .load t x, ty, pos, af, g⟩ f W Q K :=
  stp_load hT hx hA hb (fun v hv => by rw [V_str hv]; exact k)
theorem stp_load_sl {x : Operand} {t : TypeId} {α : Type} [Shape α] {w : World} {b o : Nat} {y : List α} {fp : List Nat} (hT : TyOk P t (List α)) (hx : ev n f x = .pointer (some ⟨b, o, none⟩)) (hA : At w b o y fp) (hb : Below w.heap.size w W) (k : ∀ v, Sl w v y fp → K v W) : Stp P n ⟨d, .load t x, ty, pos, af, g⟩ f W Q K :=
  stp_load hT hx hA hb (fun v hv => k v (V_sl hv))
theorem stp_load_agg {x : Operand} {t : TypeId} {α : Type} [Shape α] [Agg α] {w : World} {b o : Nat} {y : α} {fp : List Nat} (hT : TyOk P t α) (ha : Agg.agg α = true) (hx : ev n f x = .pointer (some ⟨b, o, none⟩)) (hA : At w b o y fp) (hb : Below w.heap.size w W) (k : ∀ cs, Shape.C w cs y fp → K (.agg cs.toArray) W) : Stp P n ⟨d, .load t x, ty, pos, af, g⟩ f W Q K :=
  stp_load hT hx hA hb (fun v ⟨cs, e, hc⟩ => by rw [e]; simp only [val, ha, cond_true]; exact k cs hc)
theorem At.int {w : World} {b o : Nat} {x : Int} (h : w.cell? ⟨b, o, none⟩ = some (I x)) (hx : I64 x) : At w b o x [] :=
  ⟨[I x], fun j v hj => by cases j with | zero => cases hj; exact h | succ j => simp at hj, rfl, rfl, hx⟩

/-! ### Slices -/
/-- Slices of type t have elements of type e, which are α. -/
structure SlOk (P : Program) (t : TypeId) (e : TypeId) (α : Type) [Shape α] : Prop where
  desc : P.underlying t = some (.slice e)
  size : (P.info? e).map (·.size) = some (Shape.size α)
theorem stp_len {x : Operand} {t t' : TypeId} {α : Type} [Shape α] {w : World} {v : Value} {xs : List α} {fp : List Nat} (hT : SlOk P t t' α) (hx : ev n f x = v) (hs : Sl w v xs fp) (k : K (I xs.length) W) :
    Stp P n ⟨d, .call { callee := .builtin .len, args := #[x], argTypes := #[t] }, ty, pos, af, g⟩ f W Q K := by
  obtain ⟨ao, cap, rfl, _, _, _⟩ := hs
  refine Stp.run (v := I xs.length) ?_ k
  have he : P.elem t = t' := by simp [Program.elem, hT.desc]
  have hu : P.underlying t = some (.slice (P.elem t)) := by rw [he]; exact hT.desc
  simp [execOp, hx, resolve, invoke, builtin, Sem.run_bind, run_len_slice (h := hu), goInt]
/-- Element i of the slice v, of k cells each, lies at cell o of block b. -/
def PA (v : Value) (k i b o : Nat) : Prop := ∃ off len cap, v = .slice (some ⟨b, off, none⟩) len cap ∧ i < len ∧ o = off + i * k
theorem idx {α : Type} [Shape α] {w : World} {v : Value} {xs : List α} {fp : List Nat} (hs : Sl w v xs fp) {i : Nat} (hi : i < xs.length) : ∃ b o cs f1, PA v (Shape.size α) i b o ∧ w.rangeAt b o cs ∧ Shape.C w cs xs[i] f1 ∧ ∀ c ∈ b :: f1, c ∈ fp := by
  obtain ⟨ao, cap, rfl, h1, h2, h3⟩ := hs.openk _ rfl
  obtain ⟨b, off, rfl, hb, hm, he⟩ := h3 (by omega)
  obtain ⟨cs, f1, hr, hc, hf⟩ := he i hi
  exact ⟨b, _, cs, f1, ⟨off, _, _, rfl, hi, rfl⟩, hr, hc, by intro c hc; rcases List.mem_cons.1 hc with rfl | hc; exact hm; exact hf c hc⟩
theorem stp_indexAddr {x y : Operand} {t t' : TypeId} {α : Type} [Shape α] {v : Value} {i b o : Nat} {e : Int} (hT : SlOk P t t' α) (hx : ev n f x = v) (hp : PA v (Shape.size α) i b o) (hy : ev n f y = I e) (he : e = i)
    (k : K (.pointer (some ⟨b, o, none⟩)) W) : Stp P n ⟨d, .indexAddr t x y, ty, pos, af, g⟩ f W Q K := by
  obtain ⟨off, len, cap, rfl, hi, rfl⟩ := hp
  subst he
  refine Stp.run (v := .pointer (some ⟨b, off + i * Shape.size α, none⟩)) ?_ k
  have hel : P.elem t = t' := by simp [Program.elem, hT.desc]
  have hu : P.underlying t = some (.slice (P.elem t)) := by rw [hel]; exact hT.desc
  have hz := hT.size
  cases hq : P.info? t' with
  | none => simp [hq] at hz
  | some j =>
    have hj : j.size = Shape.size α := by simpa [hq] using hz
    have hlt : (i : Int) < len := by omega
    simp [execOp, hx, hy, Sem.run_bind, run_indexAt_slice (h := hu), hel, hlt, sizeOf, typeInfo, hq, hj, Addr.add]
/-- A cell of a row that stood in an earlier world. -/
theorem stp_load_rg {t : TypeId} {α : Type} [Shape α] [Agg α] {w : World} {x : Operand} {b o o' i : Nat} {C : List Value} {v : Value} (hT : TyOk P t α) (ha : Agg.agg α = false) (hx : ev n f x = .pointer (some ⟨b, o', none⟩)) (hr : w.rangeAt b o C) (hb : Below w.heap.size w W) (ho : o' = o + i) (hv : C[i]? = some v) (k : K v W) :
    Stp P n ⟨d, .load t x, ty, pos, af, g⟩ f W Q K := by
  subst ho
  have hr1 : W.rangeAt b (o + i) [v] := by
    intro j u hj
    cases j with
    | zero => simp at hj; subst hj; exact (rangeAt_below hr hb) i v hv
    | succ j => simp at hj
  refine Stp.run (v := v) ?_ k
  have := hT.load hr1 (by rw [hT.one ha]; rfl)
  simp only [val, ha, cond_false] at this
  simp [execOp, hx, Sem.run_bind, this]
theorem stp_load_rgs {t : TypeId} {α : Type} [Shape α] [Agg α] {w : World} {x : Operand} {b o o' i : Nat} {C cs : List Value} (hT : TyOk P t α) (ha : Agg.agg α = true) (hx : ev n f x = .pointer (some ⟨b, o', none⟩)) (hr : w.rangeAt b o C) (hb : Below w.heap.size w W) (ho : o' = o + i) (hv : (C.drop i).take (Shape.size α) = cs) (hl : cs.length = Shape.size α) (k : K (.agg cs.toArray) W) :
    Stp P n ⟨d, .load t x, ty, pos, af, g⟩ f W Q K := by
  subst ho
  have hr1 : W.rangeAt b (o + i) cs := by
    intro j u hj
    have hjl : j < cs.length := (List.getElem?_eq_some_iff.1 hj).1
    rw [← hv, List.getElem?_take, if_pos (by omega), List.getElem?_drop] at hj
    rw [Nat.add_assoc]
    exact (rangeAt_below hr hb) (i + j) u hj
  refine Stp.run (v := .agg cs.toArray) ?_ k
  have := hT.load hr1 hl
  simp only [val, ha, cond_true] at this
  simp [execOp, hx, Sem.run_bind, this]
end
end Go.Proofs.YtchnllpegfbleaaDoor
