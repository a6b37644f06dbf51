/-
  What data looks like in memory: lists of cells that stand for numbers, structs and slices. Theory alone: no function of the program is walked here.
-/
import Derived.Test.YtchnllpegfbleaaDoorRows
import Derived.WalkKit
import Derived.BigQuiet
import Derived.Deep.QuietTactic
import Derived.Deep.MidRow
import Derived.Lib.QuietBelow
import Derived.Deep.Slices
import Derived.Carry
import Derived.Lib.Hide
namespace Go.Proofs.YtchnllpegfbleaaDoor
set_option linter.unusedSimpArgs false
set_option linter.unusedVariables false
set_option maxRecDepth 100000
open Go.RowKit

abbrev I (n : Int) : Value := .int .i64 n
/-- A number that an int holds. -/
def I64 (n : Int) : Prop := -9223372036854775808 ≤ n ∧ n ≤ 9223372036854775807

/-- How a value of type α lies in memory: its cells, what they stand for in a world, and the blocks that they lead to. -/
class Shape (α : Type) where
  size : Nat
  C : World → List Value → α → List Nat → Prop
  len : ∀ {w : World} {cs : List Value} {x : α} {fp : List Nat}, C w cs x fp → cs.length = size
  loc : ∀ {w w' : World} {cs : List Value} {x : α} {fp : List Nat}, w.heap.size ≤ w'.heap.size → (∀ b ∈ fp, ∀ o, w'.cell? ⟨b, o, none⟩ = w.cell? ⟨b, o, none⟩) → C w cs x fp → C w' cs x fp
  one : ∀ {w : World} {cs : List Value} {x : α} {fp : List Nat}, C w cs x fp → ∀ v ∈ cs, v.oneCell' = true
  lt : ∀ {w : World} {cs : List Value} {x : α} {fp : List Nat}, C w cs x fp → ∀ b ∈ fp, b < w.heap.size

/-- Elements one behind the other from offset o of block b on. -/
def SlAt {α : Type} [Shape α] (w : World) (b : Nat) : Nat → List α → List Nat → Prop
  | _, [], fp => fp = []
  | o, x :: xs, fp => ∃ cs f1 f2, w.rangeAt b o cs ∧ Shape.C w cs x f1 ∧ SlAt w b (o + Shape.size α) xs f2 ∧ fp = f1 ++ f2

/-- A slice value, what its elements stand for, and the blocks that it leads to. -/
def Sl {α : Type} [Shape α] (w : World) (v : Value) (xs : List α) (fp : List Nat) : Prop :=
  ∃ ao cap, v = .slice ao xs.length cap ∧ xs.length ≤ cap ∧ cap ≤ 9223372036854775807 ∧
    ((xs = [] ∧ fp = []) ∨ ∃ b off f, xs ≠ [] ∧ ao = some ⟨b, off, none⟩ ∧ fp = b :: f ∧ b < w.heap.size ∧ SlAt w b off xs f)

section
variable {α : Type} [Shape α]

theorem SlAt.loc {w w' : World} {b : Nat} (hs : w.heap.size ≤ w'.heap.size) : ∀ {xs : List α} {o : Nat} {fp : List Nat}, (∀ c, c = b ∨ c ∈ fp → ∀ o, w'.cell? ⟨c, o, none⟩ = w.cell? ⟨c, o, none⟩) → SlAt w b o xs fp → SlAt w' b o xs fp
  | [], _, _, _, h => h
  | x :: xs, o, fp, hk, h => by
    obtain ⟨cs, f1, f2, hr, hc, ht, rfl⟩ := h
    refine ⟨cs, f1, f2, fun j v hj => ?_, Shape.loc hs (fun c hc' => hk c (.inr (by simp [hc']))) hc, SlAt.loc hs (fun c hc' => hk c (hc'.elim .inl fun h => .inr (by simp [h]))) ht, rfl⟩
    rw [hk b (.inl rfl)]; exact hr j v hj

theorem SlAt.lt {w : World} {b : Nat} : ∀ {xs : List α} {o : Nat} {fp : List Nat}, SlAt w b o xs fp → ∀ c ∈ fp, c < w.heap.size
  | [], _, _, h, c, hc => by cases h; cases hc
  | x :: xs, o, fp, h, c, hc => by
    obtain ⟨cs, f1, f2, hr, hcc, ht, rfl⟩ := h
    rcases List.mem_append.1 hc with h1 | h1
    · exact Shape.lt hcc c h1
    · exact SlAt.lt ht c h1

/-- Element i. -/
theorem SlAt.get {w : World} {b : Nat} : ∀ {xs : List α} {o : Nat} {fp : List Nat}, SlAt w b o xs fp → ∀ i (h : i < xs.length), ∃ cs f, w.rangeAt b (o + i * Shape.size α) cs ∧ Shape.C w cs xs[i] f ∧ ∀ c ∈ f, c ∈ fp
  | x :: xs, o, fp, h, 0, _ => by
    obtain ⟨cs, f1, f2, hr, hcc, ht, rfl⟩ := h
    exact ⟨cs, f1, by simpa using hr, hcc, fun c hc => by simp [hc]⟩
  | x :: xs, o, fp, h, i + 1, hi => by
    obtain ⟨cs, f1, f2, hr, hcc, ht, rfl⟩ := h
    obtain ⟨cs', f, h1, h2, h3⟩ := SlAt.get ht i (by simpa using hi)
    refine ⟨cs', f, ?_, h2, fun c hc => by simp [h3 c hc]⟩
    rw [show o + (i + 1) * Shape.size α = o + Shape.size α + i * Shape.size α by rw [Nat.add_mul]; omega]
    exact h1

theorem Sl.loc {w w' : World} {v : Value} {xs : List α} {fp : List Nat} (hk : ∀ b ∈ fp, ∀ o, w'.cell? ⟨b, o, none⟩ = w.cell? ⟨b, o, none⟩) (h : Sl w v xs fp) (hs : w.heap.size ≤ w'.heap.size) : Sl w' v xs fp := by
  obtain ⟨ao, cap, rfl, h1, h2, h3⟩ := h
  refine ⟨ao, cap, rfl, h1, h2, ?_⟩
  rcases h3 with h3 | ⟨b, off, f, hne, rfl, rfl, hb, h3⟩
  · exact .inl h3
  · exact .inr ⟨b, off, f, hne, rfl, rfl, by omega, SlAt.loc hs (fun c hc => hk c (by simpa using hc)) h3⟩

theorem Sl.below {w w' : World} {v : Value} {xs : List α} {fp : List Nat} (h : Sl w v xs fp) (hb : Below w.heap.size w w') : Sl w' v xs fp := by
  refine Sl.loc (fun b hbm o => ?_) h hb.size
  have : b < w.heap.size := by
    obtain ⟨ao, cap, rfl, h1, h2, h3⟩ := h
    rcases h3 with ⟨_, rfl⟩ | ⟨b', off, f, hne, rfl, rfl, hb', h3⟩
    · cases hbm
    · rcases List.mem_cons.1 hbm with rfl | h
      · exact hb'
      · exact SlAt.lt h3 _ h
  exact hb.cell this

theorem Sl.lt {w : World} {v : Value} {xs : List α} {fp : List Nat} (h : Sl w v xs fp) : ∀ b ∈ fp, b < w.heap.size := by
  intro b hbm
  obtain ⟨ao, cap, rfl, h1, h2, h3⟩ := h
  rcases h3 with ⟨_, rfl⟩ | ⟨b', off, f, hne, rfl, rfl, hb', h3⟩
  · cases hbm
  · rcases List.mem_cons.1 hbm with rfl | h
    · exact hb'
    · exact SlAt.lt h3 _ h

/-- What stays as it was below the heap's size. -/
theorem C_below {w w' : World} {cs : List Value} {x : α} {fp : List Nat} (h : Shape.C w cs x fp) (hb : Below w.heap.size w w') : Shape.C w' cs x fp :=
  Shape.loc hb.size (fun b hbm _ => hb.cell (Shape.lt h b hbm)) h

/-- A slice, taken apart for a walk: the value written out; in it element i has its cells at the place that the walk reckons. -/
theorem Sl.openk {w : World} {v : Value} {xs : List α} {fp : List Nat} (h : Sl w v xs fp) (k : Nat) (hk : Shape.size α = k) : ∃ ao cap, v = .slice ao xs.length cap ∧ xs.length ≤ cap ∧ cap ≤ 9223372036854775807 ∧
    (0 < xs.length → ∃ b off, ao = some ⟨b, off, none⟩ ∧ b < w.heap.size ∧ b ∈ fp ∧ ∀ i (hi : i < xs.length), ∃ cs f, w.rangeAt b (off + i * k) cs ∧ Shape.C w cs xs[i] f ∧ ∀ c ∈ f, c ∈ fp) := by
  subst hk
  obtain ⟨ao, cap, rfl, h1, h2, h3⟩ := h
  refine ⟨ao, cap, rfl, h1, h2, fun hp => ?_⟩
  rcases h3 with ⟨rfl, _⟩ | ⟨b, off, f, hne, rfl, rfl, hb, h3⟩
  · simp at hp
  · exact ⟨b, off, rfl, hb, by simp, fun i hi => by
      obtain ⟨cs, g, a1, a2, a3⟩ := SlAt.get h3 i hi
      exact ⟨cs, g, a1, a2, fun c hc => by simp [a3 c hc]⟩⟩
end

section
variable {α : Type} [Shape α]
/-- The cells of the row itself, and of what it leads to, are as they were. -/
theorem SlAt.loc_row {w w' : World} {b : Nat} (hs : w.heap.size ≤ w'.heap.size) : ∀ {xs : List α} {o : Nat} {fp : List Nat}, (∀ j, o ≤ j → j < o + xs.length * Shape.size α → w'.cell? ⟨b, j, none⟩ = w.cell? ⟨b, j, none⟩) →
    (∀ c ∈ fp, ∀ o, w'.cell? ⟨c, o, none⟩ = w.cell? ⟨c, o, none⟩) → SlAt w b o xs fp → SlAt w' b o xs fp
  | [], _, _, _, _, h => h
  | x :: xs, o, fp, hr0, hk, h => by
    obtain ⟨cs, f1, f2, hr, hc, ht, rfl⟩ := h
    have hlen : (x :: xs).length * Shape.size α = Shape.size α + xs.length * Shape.size α := by simp [Nat.add_mul]; omega
    refine ⟨cs, f1, f2, fun j v hj => ?_, Shape.loc hs (fun c hc' => hk c (by simp [hc'])) hc, SlAt.loc_row hs (fun j h1 h2 => hr0 j (by omega) (by omega)) (fun c hc' => hk c (by simp [hc'])) ht, rfl⟩
    have hjl : j < cs.length := (List.getElem?_eq_some_iff.1 hj).1
    rw [Shape.len hc] at hjl
    rw [hr0 (o + j) (by omega) (by omega)]; exact hr j v hj
theorem SlAt.snoc {w : World} {b : Nat} {x : α} {cs : List Value} {f1 : List Nat} : ∀ {xs : List α} {o : Nat} {fp : List Nat}, SlAt w b o xs fp → w.rangeAt b (o + xs.length * Shape.size α) cs → Shape.C w cs x f1 → SlAt w b o (xs ++ [x]) (fp ++ f1)
  | [], o, fp, h, hr, hc => by
    cases h
    exact ⟨cs, f1, [], by simpa using hr, hc, rfl, by simp⟩
  | y :: xs, o, fp, h, hr, hc => by
    obtain ⟨cs', g1, g2, hr', hc', ht, rfl⟩ := h
    refine ⟨cs', g1, g2 ++ f1, hr', hc', SlAt.snoc ht ?_ hc, by simp⟩
    rw [show o + Shape.size α + xs.length * Shape.size α = o + (y :: xs).length * Shape.size α by simp [Nat.add_mul]; omega]
    exact hr
end

/-- A block of the call's own that is known whole as to its size: k cells. -/
def Row (w : World) (b e k : Nat) : Prop := ∃ C : Array Value, w.heap[b]? = some (.cells C e (0, 0)) ∧ C.size = k
theorem Row.there {w : World} {b e k : Nat} (h : Row w b e k) (o n : Nat) (hn : o + n ≤ k) : w.there b o n := by
  obtain ⟨C, hC, rfl⟩ := h
  intro j hj
  constructor
  · simp [World.cell?, hC]; omega
  · simp [World.frozen?, hC]
theorem Row.lt {w : World} {b e k : Nat} (h : Row w b e k) : b < w.heap.size := by
  obtain ⟨C, hC, rfl⟩ := h
  exact (Array.getElem?_eq_some_iff.1 hC).1
theorem heap_setCell_same {w : World} {b e : Nat} {C : Array Value} (h : w.heap[b]? = some (.cells C e (0, 0))) (o : Nat) (v : Value) : (w.setCell ⟨b, o, none⟩ v).heap[b]? = some (.cells (C.setIfInBounds o v) e (0, 0)) := by
  simp [World.setCell, Array.getElem?_modify, h]
theorem Row.setCell {w : World} {b e k : Nat} (h : Row w b e k) (o : Nat) (v : Value) : Row (w.setCell ⟨b, o, none⟩ v) b e k := by
  obtain ⟨C, hC, rfl⟩ := h
  exact ⟨_, heap_setCell_same hC o v, by simp⟩
theorem Row.setCells {b e k : Nat} : ∀ (vs : List Value) (o : Nat) {w : World}, Row w b e k → Row (w.setCells b o vs) b e k
  | [], _, _, h => h
  | v :: r, o, w, h => by rw [World.setCells]; exact Row.setCells r (o + 1) (h.setCell o v)
theorem below_setCells {B b : Nat} (hB : B ≤ b) : ∀ (vs : List Value) (o : Nat) (w : World), Below B w (w.setCells b o vs)
  | [], _, w => Below.refl _ _
  | v :: r, o, w => by rw [World.setCells]; exact ((Below.refl B w).setCell (p := ⟨b, o, none⟩) hB v).trans (below_setCells hB r (o + 1) _)
theorem Row.below {w w' : World} {b e k B : Nat} (h : Row w b e k) (hb : Below B w w') (hB : b < B) : Row w' b e k := by
  obtain ⟨C, hC, rfl⟩ := h
  exact ⟨C, by rw [hb.block b hB]; exact hC, rfl⟩
theorem Row.made (w : World) (z : Array Value) (n e : Nat) : Row (w.alloc (.cells (madeCells z n) e)) w.heap.size e n :=
  ⟨_, by show (w.heap.push _)[w.heap.size]? = _; simp, size_madeCells z n⟩
/-- An element has been stored into a row: the elements ahead of it, and this one, lie there. -/
theorem SlAt.store {α : Type} [Shape α] {w : World} {b e k : Nat} {x : α} {cs : List Value} {f1 fp : List Nat} {xs : List α} (hR : Row w b e k) (h : SlAt w b 0 xs fp) (hc : Shape.C w cs x f1) (hk : (xs.length + 1) * Shape.size α ≤ k)
    (hb : ∀ c ∈ fp ++ f1, c ≠ b) : SlAt (w.setCells b (xs.length * Shape.size α) cs) b 0 (xs ++ [x]) (fp ++ f1) := by
  have hcl := Shape.len hc
  have hmul : (xs.length + 1) * Shape.size α = xs.length * Shape.size α + Shape.size α := by rw [Nat.add_mul]; omega
  have hsz : w.heap.size ≤ (w.setCells b (xs.length * Shape.size α) cs).heap.size := (below_setCells (Nat.zero_le b) cs _ w).size
  have hout : ∀ c, c ≠ b → ∀ o, (w.setCells b (xs.length * Shape.size α) cs).cell? ⟨c, o, none⟩ = w.cell? ⟨c, o, none⟩ := fun c hcb o => World.cell?_setCells_out _ _ _ _ _ (fun h => absurd h hcb)
  refine SlAt.snoc (SlAt.loc_row hsz (fun j _ hj => ?_) (fun c hcm o => hout c (hb c (by simp [hcm])) o) h) ?_ (Shape.loc hsz (fun c hcm o => hout c (hb c (by simp [hcm])) o) hc)
  · exact World.cell?_setCells_out _ _ _ _ _ (fun _ _ => .inl (by simp at hj ⊢; omega))
  · simp only [Nat.zero_add]
    exact World.rangeAt_setCells_same _ _ _ _ (hR.there _ _ (by omega))

/-- The walk's law for 'out[i] = x': an element is stored behind those that lie in the row already. -/
theorem wpList_store_elem {P : Program} {α : Type} [Shape α] {ops : Array Oper} {rest : List Oper} {op : Oper} {a : Act} {w : World} {Q : Exit → Act → World → Prop} (hgd : op.guard = none) (ty : TypeId) (x y : Operand) (ho : op.op = .store ty x y)
    (b n : Nat) (e : TypeId) (k s : Nat) (cells : List Value) (v : α) (xs : List α) (f1 fp : List Nat) (hx : a.eval x = .pointer (some ⟨b, n * s, none⟩)) (hy : a.eval y = .agg cells.toArray)
    (hs : Shape.size α = s) (hn : xs.length = n) (hR : Row w b e k) (hS : SlAt w b 0 xs fp) (hc : Shape.C w cells v f1) (hk : (n + 1) * s ≤ k) (hb : ∀ c ∈ fp ++ f1, c ≠ b) (hi : (P.info? ty).map (·.size) = some s)
    (h : ∀ w', Row w' b e k → SlAt w' b 0 (xs ++ [v]) (fp ++ f1) → Below b w w' → wpList P ops Q rest (a.put op.dst undef) w') : wpList P ops Q (op :: rest) a w := by
  subst hs hn
  have hl := Shape.len hc
  have hmul : (xs.length + 1) * Shape.size α = xs.length * Shape.size α + Shape.size α := by rw [Nat.add_mul]; omega
  refine wpList_store_mid hgd ty x y ho b (xs.length * Shape.size α) cells.toArray hx hy (hR.there _ _ (by simp; omega)) (by simpa [hl] using hi) (all_oneCell_toArray (Shape.one hc)) ?_
  exact h _ (Row.setCells _ _ hR) (SlAt.store hR hS hc hk hb) (below_setCells (Nat.le_refl b) _ _ _)

def fpOf {α : Type} (b : Nat) : List α → List Nat → List Nat
  | [], _ => []
  | _ :: _, fp => b :: fp
/-- A row that was filled from its head is a slice. -/
theorem Sl.of_row {α : Type} [Shape α] {w : World} {b e k c : Nat} {xs : List α} {fp : List Nat} (hl : xs.length ≤ c ∧ c ≤ 9223372036854775807) (hR : Row w b e k) (hS : SlAt w b 0 xs fp) : Sl w (.slice (some ⟨b, 0, none⟩) xs.length c) xs (fpOf b xs fp) := by
  refine ⟨_, c, rfl, hl.1, hl.2, ?_⟩
  cases xs with
  | nil => exact .inl ⟨rfl, rfl⟩
  | cons x xs => exact .inr ⟨b, 0, fp, by simp, rfl, rfl, hR.lt, hS⟩

theorem Sl.setCell {α : Type} [Shape α] {w : World} {v : Value} {xs : List α} {fp : List Nat} {c o : Nat} {u : Value} (h : Sl w v xs fp) (hc : c ∉ fp) : Sl (w.setCell ⟨c, o, none⟩ u) v xs fp :=
  Sl.loc (fun b hb o' => World.cell?_setCell_other _ _ _ _ (fun e => by injection e with e1; subst e1; exact hc hb)) h (by simp [World.setCell])
theorem Sl.alloc {α : Type} [Shape α] {w : World} {v : Value} {xs : List α} {fp : List Nat} {ob : Obj} (h : Sl w v xs fp) : Sl (w.alloc ob) v xs fp :=
  h.below ((Below.refl _ _).alloc (Nat.le_refl _) _)
theorem fp_row {α : Type} {b : Nat} {xs : List α} {fp : List Nat} (h : ∀ c ∈ fp, b < c) : ∀ c ∈ fpOf b xs fp, b ≤ c := by
  intro c hc
  cases xs with
  | nil => cases hc
  | cons x xs =>
    rcases List.mem_cons.1 hc with rfl | hc
    · exact Nat.le_refl _
    · exact Nat.le_of_lt (h c hc)

/-! ### Behind a call that lets alone what was there: the world is the old one, with draws and with blocks behind it. So the caller's own variables stay written out. -/
theorem size_alloc (w : World) (o : Obj) : (w.alloc o).heap.size = w.heap.size + 1 := by show (w.heap.push o).size = _; exact Array.size_push ..
def after (W : World) (p : Regrown) : World := Sort.grow (redrawn W p.d) p.os
def joinR (p q : Regrown) : Regrown := ⟨q.d, p.os ++ q.os⟩
theorem after_of_below {W w' : World} (h : Below W.heap.size W w') : ∃ p, w' = after W p := regrown_of_below h
theorem below_after {a W : World} {p : Regrown} (h : Below a.heap.size a W) : Below a.heap.size a (after W p) := h.trans ((below_regrown W p.d p.os).mono h.size)
@[go_sem] theorem after_cell (W : World) (p : Regrown) (n i : Nat) (hn : n < W.heap.size) : (after W p).cell? ⟨n, i, none⟩ = W.cell? ⟨n, i, none⟩ := (below_regrown W p.d p.os).cell (p := ⟨n, i, none⟩) hn
@[go_sem] theorem after_frozen (W : World) (p : Regrown) (n i : Nat) (hn : n < W.heap.size) : (after W p).frozen? ⟨n, i, none⟩ = W.frozen? ⟨n, i, none⟩ := (below_regrown W p.d p.os).frozen (p := ⟨n, i, none⟩) hn
@[go_sem] theorem after_size (W : World) (p : Regrown) : (after W p).heap.size = W.heap.size + p.os.size := by simp [after, redrawn]
@[go_sem] theorem after_after (W : World) (p q : Regrown) : after (after W p) q = after W (joinR p q) := by simp [after, redrawn, joinR, Sort.grow, Array.append_assoc]
@[go_sem] theorem after_setCell (W : World) (p : Regrown) (n i : Nat) (v : Value) (hn : n < W.heap.size) : (after W p).setCell ⟨n, i, none⟩ v = after (W.setCell ⟨n, i, none⟩ v) p := by
  simp only [after, redrawn, World.setCell, Sort.grow]
  rw [Sort.modify_append_left _ _ _ _ hn]
theorem size_setCell (W : World) (a : Addr) (v : Value) : (W.setCell a v).heap.size = W.heap.size := by simp [World.setCell]
theorem Sl.toAfter {α : Type} [Shape α] {W W' : World} {p : Regrown} {v : Value} {xs : List α} {fp : List Nat} (h : Sl (after W p) v xs fp) (hf : ∀ b ∈ fp, W.heap.size ≤ b) (hs : W'.heap.size = W.heap.size) : Sl (after W' p) v xs fp := by
  refine Sl.loc (fun b hb o => ?_) h (by rw [after_size, after_size, hs]; exact Nat.le_refl _)
  have := hf b hb
  simp only [World.cell?, after, Sort.grow, redrawn]
  rw [Array.getElem?_append_right (by omega), Array.getElem?_append_right (by omega), hs]
theorem Sl.join {α : Type} [Shape α] {W : World} {p q : Regrown} {v : Value} {xs : List α} {fp : List Nat} (h : Sl (after W p) v xs fp) : Sl (after W (joinR p q)) v xs fp := by
  rw [← after_after]; exact h.below (below_after (Below.refl _ _))
theorem Sl.flat {α : Type} [Shape α] {W : World} {p q : Regrown} {v : Value} {xs : List α} {fp : List Nat} (h : Sl (after (after W p) q) v xs fp) : Sl (after W (joinR p q)) v xs fp := by
  rw [← after_after]; exact h

/-! ### A whole struct, loaded from or stored into a block that is written out: no step for each cell. -/
def putBlk (w : World) (b : Nat) (o : Obj) : World := { w with heap := w.heap.setIfInBounds b o }
def splice : List Value → Nat → List Value → List Value
  | C, 0, [] => C
  | _ :: C, 0, v :: vs => v :: splice C 0 vs
  | c :: C, n + 1, vs => c :: splice C n vs
  | [], _, _ => []
@[go_sem] theorem putBlk_after (W : World) (p : Regrown) (b : Nat) (o : Obj) (h : b < W.heap.size) : putBlk (after W p) b o = after (putBlk W b o) p := by
  simp only [putBlk, after, redrawn, Sort.grow]
  rw [Array.setIfInBounds_append_left h]
@[go_sem] theorem putBlk_alloc_past (w : World) (ob : Obj) (b : Nat) (o : Obj) (h : b < w.heap.size) : putBlk (w.alloc ob) b o = (putBlk w b o).alloc ob := by
  show ({ w with heap := (w.heap.push ob).setIfInBounds b o } : World) = { w with heap := (w.heap.setIfInBounds b o).push ob }
  congr 1
  apply Array.ext_getElem?
  intro i
  simp only [Array.getElem?_setIfInBounds, Array.getElem?_push, Array.size_push, Array.size_setIfInBounds]
  split <;> split <;> simp_all <;> omega
@[go_sem] theorem putBlk_alloc_at (w : World) (ob : Obj) (b : Nat) (o : Obj) (h : b = w.heap.size) : putBlk (w.alloc ob) b o = w.alloc o := by
  subst h
  show ({ w with heap := (w.heap.push ob).setIfInBounds w.heap.size o } : World) = { w with heap := w.heap.push o }
  congr 1
  apply Array.ext_getElem?
  intro i
  simp only [Array.getElem?_setIfInBounds, Array.getElem?_push, Array.size_push]
  split <;> split <;> simp_all
theorem heap_after (W : World) (p : Regrown) (b : Nat) (h : b < W.heap.size) : (after W p).heap[b]? = W.heap[b]? := (below_regrown W p.d p.os).block b h
theorem heap_alloc_past (w : World) (ob : Obj) (b : Nat) (h : b < w.heap.size) : (w.alloc ob).heap[b]? = w.heap[b]? := Below.heap_alloc w ob b h
theorem heap_alloc_at (w : World) (ob : Obj) (b : Nat) (h : b = w.heap.size) : (w.alloc ob).heap[b]? = some ob := by subst h; show (w.heap.push _)[w.heap.size]? = _; simp
theorem setCells_blk {b t : Nat} : ∀ (vs : List Value) (o : Nat) (C : List Value) (w : World), w.heap[b]? = some (.cells C.toArray t (0, 0)) → o + vs.length ≤ C.length → w.setCells b o vs = putBlk w b (.cells (splice C o vs).toArray t)
  | [], o, C, w, h, _ => by
    have e : splice C o [] = C := by
      clear h
      induction C generalizing o with
      | nil => cases o <;> rfl
      | cons c C ih => cases o with
        | zero => rfl
        | succ o => rw [splice]; congr 1; exact ih o (by simp_all)
    rw [e]
    show w = putBlk w b _
    unfold putBlk
    obtain ⟨hb, he⟩ := Array.getElem?_eq_some_iff.1 h
    rw [← he, Array.setIfInBounds, dif_pos hb, Array.set_getElem_self]
  | v :: vs, o, C, w, h, hl => by
    rw [World.setCells]
    have h1 := heap_setCell_same h o v
    have e1 : (C.toArray.setIfInBounds o v) = (C.set o v).toArray := by simp
    rw [e1] at h1
    rw [setCells_blk vs (o + 1) (C.set o v) _ h1 (by simp at hl ⊢; omega)]
    have e2 : ∀ (C : List Value) (o : Nat), o < C.length → splice (C.set o v) (o + 1) vs = splice C o (v :: vs) := by
      intro C
      induction C with
      | nil => intro o h; simp at h
      | cons c C ih =>
        intro o ho
        cases o with
        | zero => rfl
        | succ o => show c :: splice (C.set o v) (o + 1) vs = c :: splice C o (v :: vs); rw [ih o (by simpa using ho)]
    rw [e2 C o (by simp at hl; omega)]
    unfold putBlk
    simp only [World.setCell]
    congr 1
    apply Array.ext_getElem?
    intro i
    simp only [Array.getElem?_setIfInBounds, Array.getElem?_modify, Array.size_modify]
    split
    · rfl
    · rfl
/-- Guards: they fail at once where the next operation is another one. -/
theorem at_load {P : Program} {ops : Array Oper} {rest : List Oper} {op : Oper} {a : Act} {w : World} {Q : Exit → Act → World → Prop} (ty : TypeId) (x : Operand) (ho : op.op = .load ty x) (h : wpList P ops Q (op :: rest) a w) : wpList P ops Q (op :: rest) a w := h
theorem at_store {P : Program} {ops : Array Oper} {rest : List Oper} {op : Oper} {a : Act} {w : World} {Q : Exit → Act → World → Prop} (ty : TypeId) (x y : Operand) (ho : op.op = .store ty x y) (h : wpList P ops Q (op :: rest) a w) : wpList P ops Q (op :: rest) a w := h
theorem wpList_load_blk {P : Program} {ops : Array Oper} {rest : List Oper} {op : Oper} {a : Act} {w : World} {Q : Exit → Act → World → Prop} (hgd : op.guard = none) (ty : TypeId) (x : Operand) (ho : op.op = .load ty x)
    (fs : Array Field) (hu : P.underlying ty = some (.struct fs)) (b o : Nat) (hx : a.eval x = .pointer (some ⟨b, o, none⟩)) (C : List Value) (t : TypeId) (fr : Nat × Nat) (hB : w.heap[b]? = some (.cells C.toArray t fr)) (n : Nat) (hi : (P.info? ty).map (·.size) = some n)
    (cs : List Value) (hcs : (C.drop o).take n = cs) (hn : cs.length = n) (h : wpList P ops Q rest (a.put op.dst (.agg cs.toArray)) w) : wpList P ops Q (op :: rest) a w := by
  obtain ⟨n0, hn0⟩ : ∃ n0, n0 = n := ⟨_, rfl⟩
  rw [← hn0] at hcs hn hi
  refine wpList_load_mid hgd ty x ho b o hx cs _ ?_ hu rfl (by rw [hn]; exact hi) h
  intro j v hj
  have hjl : j < cs.length := (List.getElem?_eq_some_iff.1 hj).1
  rw [cell_of_row w b (o + j) _ t fr hB, ← hj, ← hcs]
  have hj2 : j < n0 := by omega
  rw [List.getElem?_take, if_pos hj2, List.getElem?_drop, List.getElem?_toArray]
/-- A block that is one struct, loaded whole. -/
theorem wpList_load_all {P : Program} {ops : Array Oper} {rest : List Oper} {op : Oper} {a : Act} {w : World} {Q : Exit → Act → World → Prop} (hgd : op.guard = none) (ty : TypeId) (x : Operand) (ho : op.op = .load ty x)
    (fs : Array Field) (hu : P.underlying ty = some (.struct fs)) (b : Nat) (hx : a.eval x = .pointer (some ⟨b, 0, none⟩)) (C : List Value) (t : TypeId) (fr : Nat × Nat) (hB : w.heap[b]? = some (.cells C.toArray t fr)) (n : Nat) (hi : (P.info? ty).map (·.size) = some n)
    (hn : C.length = n) (h : wpList P ops Q rest (a.put op.dst (.agg C.toArray)) w) : wpList P ops Q (op :: rest) a w :=
  wpList_load_blk hgd ty x ho fs hu b 0 hx C t fr hB n hi C (by rw [List.drop_zero, List.take_of_length_le (by omega)]) hn h
/-- The same, as an equation on the operation's run. -/
theorem run_loadAt_all {P : Program} {w : World} {b : Nat} {C : List Value} {t : TypeId} {fr : Nat × Nat} (ty : TypeId) (fs : Array Field) (hu : P.underlying ty = some (.struct fs)) (hi : (P.info? ty).map (·.size) = some C.length) (hB : w.heap[b]? = some (.cells C.toArray t fr)) :
    (Instr.loadAt ty (.pointer (some ⟨b, 0, none⟩))).run P w = .ok (.agg C.toArray) w :=
  run_loadAt_mid w b 0 ty C _ (by
    intro j v hj
    rw [cell_of_row w b (0 + j) _ t fr hB, Nat.zero_add]
    simpa using hj) hu rfl hi
theorem wpList_store_blk {P : Program} {ops : Array Oper} {rest : List Oper} {op : Oper} {a : Act} {w : World} {Q : Exit → Act → World → Prop} (hgd : op.guard = none) (ty : TypeId) (x y : Operand) (ho : op.op = .store ty x y)
    (fs : Array Field) (hu : P.underlying ty = some (.struct fs)) (b o : Nat) (hx : a.eval x = .pointer (some ⟨b, o, none⟩)) (cs : List Value) (hy : a.eval y = .agg cs.toArray) (C : List Value) (t : TypeId) (hB : w.heap[b]? = some (.cells C.toArray t (0, 0))) (hi : (P.info? ty).map (·.size) = some cs.length)
    (h1 : ∀ v ∈ cs, v.oneCell' = true) (hle : o + cs.length ≤ C.length) (D : List Value) (hD : splice C o cs = D) (W : World) (hW : putBlk w b (.cells D.toArray t) = W) (h : wpList P ops Q rest (a.put op.dst undef) W) : wpList P ops Q (op :: rest) a w := by
  subst hW hD
  refine wpList_store_mid hgd ty x y ho b o cs.toArray hx hy ?_ (by simpa using hi) (all_oneCell_toArray h1) ?_
  · intro j hj
    constructor
    · simp [World.cell?, hB]; simp at hj; omega
    · simp [World.frozen?, hB]
  · rw [setCells_blk cs o C w hB hle]; exact h

theorem splice_all : ∀ (C vs : List Value), vs.length = C.length → splice C 0 vs = vs
  | [], [], _ => rfl
  | _ :: C, v :: vs, h => by rw [splice, splice_all C vs (by simpa using h)]
  | [], v :: vs, h => by simp at h
  | _ :: C, [], h => by simp at h
/-- A block that is one struct, stored whole. -/
theorem wpList_store_all {P : Program} {ops : Array Oper} {rest : List Oper} {op : Oper} {a : Act} {w : World} {Q : Exit → Act → World → Prop} (hgd : op.guard = none) (ty : TypeId) (x y : Operand) (ho : op.op = .store ty x y)
    (fs : Array Field) (hu : P.underlying ty = some (.struct fs)) (b : Nat) (hx : a.eval x = .pointer (some ⟨b, 0, none⟩)) (cs : List Value) (hy : a.eval y = .agg cs.toArray) (C : List Value) (t : TypeId) (hB : w.heap[b]? = some (.cells C.toArray t (0, 0))) (n : Nat) (hi : (P.info? ty).map (·.size) = some n)
    (hn : cs.length = n) (hC : C.length = n) (h1 : ∀ v ∈ cs, v.oneCell' = true) (W : World) (hW : putBlk w b (.cells cs.toArray t) = W) (h : wpList P ops Q rest (a.put op.dst undef) W) : wpList P ops Q (op :: rest) a w :=
  wpList_store_blk hgd ty x y ho fs hu b 0 hx cs hy C t hB (by rw [hn]; exact hi) h1 (by omega) cs (splice_all C cs (by omega)) W hW h

/-- A flat type: its cells hang on nothing but the value. -/
@[reducible] def Shape.flat {α : Type} (n : Nat) (cells : α → List Value) (ok : α → Prop) (hl : ∀ x, (cells x).length = n) (h1 : ∀ x, ∀ v ∈ cells x, v.oneCell' = true) : Shape α where
  size := n
  C := fun _ cs x fp => cs = cells x ∧ fp = [] ∧ ok x
  len := fun ⟨h, _⟩ => by rw [h, hl]
  loc := fun _ _ h => h
  one := fun ⟨h, _⟩ => by rw [h]; exact h1 _
  lt := fun ⟨_, h, _⟩ => by subst h; simp

instance : Shape Int := Shape.flat 1 (fun n => [I n]) I64 (fun _ => rfl) (fun _ v hv => by simp at hv; subst hv; rfl)
instance : Shape Bool := Shape.flat 1 (fun b => [.bool b]) (fun _ => True) (fun _ => rfl) (fun _ v hv => by simp at hv; subst hv; rfl)
instance : Shape ByteArray := Shape.flat 1 (fun s => [.string s]) (fun s => s.size ≤ maxLen) (fun _ => rfl) (fun _ v hv => by simp at hv; subst hv; rfl)
instance {α : Type} [Shape α] : Shape (List α) where
  size := 1
  C := fun w cs xs fp => ∃ v, cs = [v] ∧ Sl w v xs fp
  len := fun ⟨_, h, _⟩ => by rw [h]; rfl
  loc := fun hs hk ⟨v, h, hl⟩ => ⟨v, h, hl.loc hk hs⟩
  one := fun ⟨v, h, ao, cap, hv, _⟩ u hu => by subst h; simp at hu; subst hu; subst hv; rfl
  lt := fun ⟨_, _, h⟩ => h.lt

/-- A flat element's cells. -/
theorem rangeAt_cons {w : World} {b o : Nat} {v : Value} {r : List Value} : w.rangeAt b o (v :: r) ↔ w.cell? ⟨b, o, none⟩ = some v ∧ w.rangeAt b (o + 1) r := by
  constructor
  · intro h
    refine ⟨h 0 v rfl, fun j u hj => ?_⟩
    rw [Nat.add_assoc, Nat.add_comm 1 j]
    exact h (j + 1) u hj
  · rintro ⟨h0, h⟩ j u hj
    cases j with
    | zero => simp at hj; subst hj; exact h0
    | succ j =>
      have := h j u hj
      rw [Nat.add_assoc, Nat.add_comm 1 j] at this
      exact this

theorem cells4 {w : World} {b o : Nat} {v0 v1 v2 v3 : Value} (h : w.rangeAt b o [v0, v1, v2, v3]) : w.cell? ⟨b, o, none⟩ = some v0 ∧ w.cell? ⟨b, o + 1, none⟩ = some v1 ∧ w.cell? ⟨b, o + 2, none⟩ = some v2 ∧ w.cell? ⟨b, o + 3, none⟩ = some v3 :=
  ⟨h 0 _ rfl, h 1 _ rfl, h 2 _ rfl, h 3 _ rfl⟩
theorem cells2 {w : World} {b o : Nat} {v0 v1 : Value} (h : w.rangeAt b o [v0, v1]) : w.cell? ⟨b, o, none⟩ = some v0 ∧ w.cell? ⟨b, o + 1, none⟩ = some v1 :=
  ⟨h 0 _ rfl, h 1 _ rfl⟩
theorem rangeAt_below {w w' : World} {b o : Nat} {cs : List Value} (h : w.rangeAt b o cs) (hb : Below w.heap.size w w') : w'.rangeAt b o cs := fun j v hj => by
  have := h j v hj
  rw [hb.cell (World.block_lt_of_cell? w _ this)]; exact this

theorem below_alloc {a w : World} {o : Obj} (h : Below a.heap.size a w) : Below a.heap.size a (w.alloc o) := h.alloc h.size o
theorem below_setCell {B : Nat} {a w : World} {b o : Nat} {u : Value} (h : Below B a w) (hp : B ≤ b) : Below B a (w.setCell ⟨b, o, none⟩ u) := h.setCell (p := ⟨b, o, none⟩) hp u
theorem below_drewN {B : Nat} {a w : World} (h : Below B a w) (n : Nat) : Below B a (w.drewN n) := ⟨h.os, h.tape, h.output, h.size, h.block⟩
/-! ### Small numbers -/
/-- A statement as a Bool. -/
noncomputable def pB (p : Prop) : Bool := @decide p (Classical.propDecidable p)
theorem pB_t {p : Prop} (h : p) : pB p = true := by simp [pB, h]
theorem pB_f {p : Prop} (h : ¬ p) : pB p = false := by simp [pB, h]
theorem pB_iff {p : Prop} : pB p = true ↔ p := by simp [pB]
theorem ret_t {p : Prop} (h : p) : Ending.returned (.bool true) = .returned (.bool (pB p)) := by rw [pB_t h]
theorem ret_f {p : Prop} (h : ¬ p) : Ending.returned (.bool false) = .returned (.bool (pB p)) := by rw [pB_f h]
theorem cell_new (w : World) (cs : Array Value) (t j : Nat) (v : Value) (h : cs[j]? = some v) : (w.alloc (.cells cs t)).cell? ⟨w.heap.size, j, none⟩ = some v := by
  rw [World.cell?_alloc_at _ _ _ _ rfl]; exact h
theorem keep_cell {w w' : World} {B : Nat} {b o : Nat} {v : Value} (h : w.cell? ⟨b, o, none⟩ = some v) (hb : Below B w w') (hB : b < B) : w'.cell? ⟨b, o, none⟩ = some v := by
  rw [hb.cell (p := ⟨b, o, none⟩) hB]; exact h
/-- Whether two are the same, behind a name that the walk does not look through. -/
def eqB {α : Type} [DecidableEq α] (a b : α) : Bool := decide (a = b)
theorem eqB_t {α : Type} [DecidableEq α] {a b : α} (h : a = b) : eqB a b = true := by simp [eqB, h]
theorem eqB_f {α : Type} [DecidableEq α] {a b : α} (h : ¬ a = b) : eqB a b = false := by simp [eqB, h]
theorem eqB_iff {α : Type} [DecidableEq α] {a b : α} : eqB a b = true ↔ a = b := by simp [eqB]
def inB (n a b : Int) : Bool := decide (a ≤ n) && decide (n ≤ b)
end Go.Proofs.YtchnllpegfbleaaDoor
