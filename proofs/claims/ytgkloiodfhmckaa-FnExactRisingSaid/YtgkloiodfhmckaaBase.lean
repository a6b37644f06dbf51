/-
  What data looks like in memory: lists of cells that stand for numbers, structs and slices. Theory alone: no function of the program is walked here.
-/
import Derived.Test.YtgkloiodfhmckaaRows
import Derived.WalkKit
import Derived.BigQuiet
import Derived.Deep.QuietTactic
import Derived.Deep.MidRow
import Derived.Lib.QuietBelow
import Derived.Deep.Slices
import Derived.Carry
import Derived.Lib.Hide
namespace Go.Proofs.Ytgkloiodfhmckaa
set_option linter.unusedSimpArgs false
set_option linter.unusedVariables false
open Go.RowKit

abbrev I (n : Int) : Value := .int .i64 n
/-- A number that an int holds. -/
def I64 (n : Int) : Prop := -9223372036854775808 ≤ n ∧ n ≤ 9223372036854775807

/-- How a value of type α lies in memory: its cells, what they stand for in a world, and the blocks that they lead to. -/
class Shape (α : Type) where
  size : Nat
  C : World → List Value → α → List Nat → Prop
  len : ∀ {w : World} {cs : List Value} {x : α} {fp : List Nat}, C w cs x fp → cs.length = size
  loc : ∀ {w w' : World} {cs : List Value} {x : α} {fp : List Nat}, w.heap.size ≤ w'.heap.size → (∀ b ∈ fp, ∀ o, w'.cell? ⟨b, o, none⟩ = w.cell? ⟨b, o, none⟩) → C w cs x fp → C w' cs x fp
  one : ∀ {w : World} {cs : List Value} {x : α} {fp : List Nat}, C w cs x fp → ∀ v ∈ cs, v.oneCell' = true
  lt : ∀ {w : World} {cs : List Value} {x : α} {fp : List Nat}, C w cs x fp → ∀ b ∈ fp, b < w.heap.size

/-- Elements one behind the other from offset o of block b on. -/
def SlAt {α : Type} [Shape α] (w : World) (b : Nat) : Nat → List α → List Nat → Prop
  | _, [], fp => fp = []
  | o, x :: xs, fp => ∃ cs f1 f2, w.rangeAt b o cs ∧ Shape.C w cs x f1 ∧ SlAt w b (o + Shape.size α) xs f2 ∧ fp = f1 ++ f2

/-- A slice value, what its elements stand for, and the blocks that it leads to. -/
def Sl {α : Type} [Shape α] (w : World) (v : Value) (xs : List α) (fp : List Nat) : Prop :=
  ∃ ao cap, v = .slice ao xs.length cap ∧ xs.length ≤ cap ∧ cap ≤ 9223372036854775807 ∧
    ((xs = [] ∧ fp = []) ∨ ∃ b off f, xs ≠ [] ∧ ao = some ⟨b, off, none⟩ ∧ fp = b :: f ∧ b < w.heap.size ∧ SlAt w b off xs f)

section
variable {α : Type} [Shape α]

theorem SlAt.loc {w w' : World} {b : Nat} (hs : w.heap.size ≤ w'.heap.size) : ∀ {xs : List α} {o : Nat} {fp : List Nat}, (∀ c, c = b ∨ c ∈ fp → ∀ o, w'.cell? ⟨c, o, none⟩ = w.cell? ⟨c, o, none⟩) → SlAt w b o xs fp → SlAt w' b o xs fp
  | [], _, _, _, h => h
  | x :: xs, o, fp, hk, h => by
    obtain ⟨cs, f1, f2, hr, hc, ht, rfl⟩ := h
    refine ⟨cs, f1, f2, fun j v hj => ?_, Shape.loc hs (fun c hc' => hk c (.inr (by simp [hc']))) hc, SlAt.loc hs (fun c hc' => hk c (hc'.elim .inl fun h => .inr (by simp [h]))) ht, rfl⟩
    rw [hk b (.inl rfl)]; exact hr j v hj

theorem SlAt.lt {w : World} {b : Nat} : ∀ {xs : List α} {o : Nat} {fp : List Nat}, SlAt w b o xs fp → ∀ c ∈ fp, c < w.heap.size
  | [], _, _, h, c, hc => by cases h; cases hc
  | x :: xs, o, fp, h, c, hc => by
    obtain ⟨cs, f1, f2, hr, hcc, ht, rfl⟩ := h
    rcases List.mem_append.1 hc with h1 | h1
    · exact Shape.lt hcc c h1
    · exact SlAt.lt ht c h1

/-- Element i. -/
theorem SlAt.get {w : World} {b : Nat} : ∀ {xs : List α} {o : Nat} {fp : List Nat}, SlAt w b o xs fp → ∀ i (h : i < xs.length), ∃ cs f, w.rangeAt b (o + i * Shape.size α) cs ∧ Shape.C w cs xs[i] f ∧ ∀ c ∈ f, c ∈ fp
  | x :: xs, o, fp, h, 0, _ => by
    obtain ⟨cs, f1, f2, hr, hcc, ht, rfl⟩ := h
    exact ⟨cs, f1, by simpa using hr, hcc, fun c hc => by simp [hc]⟩
  | x :: xs, o, fp, h, i + 1, hi => by
    obtain ⟨cs, f1, f2, hr, hcc, ht, rfl⟩ := h
    obtain ⟨cs', f, h1, h2, h3⟩ := SlAt.get ht i (by simpa using hi)
    refine ⟨cs', f, ?_, h2, fun c hc => by simp [h3 c hc]⟩
    rw [show o + (i + 1) * Shape.size α = o + Shape.size α + i * Shape.size α by rw [Nat.add_mul]; omega]
    exact h1

theorem Sl.loc {w w' : World} {v : Value} {xs : List α} {fp : List Nat} (hk : ∀ b ∈ fp, ∀ o, w'.cell? ⟨b, o, none⟩ = w.cell? ⟨b, o, none⟩) (h : Sl w v xs fp) (hs : w.heap.size ≤ w'.heap.size) : Sl w' v xs fp := by
  obtain ⟨ao, cap, rfl, h1, h2, h3⟩ := h
  refine ⟨ao, cap, rfl, h1, h2, ?_⟩
  rcases h3 with h3 | ⟨b, off, f, hne, rfl, rfl, hb, h3⟩
  · exact .inl h3
  · exact .inr ⟨b, off, f, hne, rfl, rfl, by omega, SlAt.loc hs (fun c hc => hk c (by simpa using hc)) h3⟩

theorem Sl.below {w w' : World} {v : Value} {xs : List α} {fp : List Nat} (h : Sl w v xs fp) (hb : Below w.heap.size w w') : Sl w' v xs fp := by
  refine Sl.loc (fun b hbm o => ?_) h hb.size
  have : b < w.heap.size := by
    obtain ⟨ao, cap, rfl, h1, h2, h3⟩ := h
    rcases h3 with ⟨_, rfl⟩ | ⟨b', off, f, hne, rfl, rfl, hb', h3⟩
    · cases hbm
    · rcases List.mem_cons.1 hbm with rfl | h
      · exact hb'
      · exact SlAt.lt h3 _ h
  exact hb.cell this

theorem Sl.lt {w : World} {v : Value} {xs : List α} {fp : List Nat} (h : Sl w v xs fp) : ∀ b ∈ fp, b < w.heap.size := by
  intro b hbm
  obtain ⟨ao, cap, rfl, h1, h2, h3⟩ := h
  rcases h3 with ⟨_, rfl⟩ | ⟨b', off, f, hne, rfl, rfl, hb', h3⟩
  · cases hbm
  · rcases List.mem_cons.1 hbm with rfl | h
    · exact hb'
    · exact SlAt.lt h3 _ h

/-- What stays as it was below the heap's size. -/
theorem C_below {w w' : World} {cs : List Value} {x : α} {fp : List Nat} (h : Shape.C w cs x fp) (hb : Below w.heap.size w w') : Shape.C w' cs x fp :=
  Shape.loc hb.size (fun b hbm _ => hb.cell (Shape.lt h b hbm)) h

/-- A slice, taken apart for a walk: the value written out; in it element i has its cells at the place that the walk reckons. -/
theorem Sl.openk {w : World} {v : Value} {xs : List α} {fp : List Nat} (h : Sl w v xs fp) (k : Nat) (hk : Shape.size α = k) : ∃ ao cap, v = .slice ao xs.length cap ∧ xs.length ≤ cap ∧ cap ≤ 9223372036854775807 ∧
    (0 < xs.length → ∃ b off, ao = some ⟨b, off, none⟩ ∧ b < w.heap.size ∧ b ∈ fp ∧ ∀ i (hi : i < xs.length), ∃ cs f, w.rangeAt b (off + i * k) cs ∧ Shape.C w cs xs[i] f ∧ ∀ c ∈ f, c ∈ fp) := by
  subst hk
  obtain ⟨ao, cap, rfl, h1, h2, h3⟩ := h
  refine ⟨ao, cap, rfl, h1, h2, fun hp => ?_⟩
  rcases h3 with ⟨rfl, _⟩ | ⟨b, off, f, hne, rfl, rfl, hb, h3⟩
  · simp at hp
  · exact ⟨b, off, rfl, hb, by simp, fun i hi => by
      obtain ⟨cs, g, a1, a2, a3⟩ := SlAt.get h3 i hi
      exact ⟨cs, g, a1, a2, fun c hc => by simp [a3 c hc]⟩⟩
end

section
variable {α : Type} [Shape α]
/-- The cells of the row itself, and of what it leads to, are as they were. -/
theorem SlAt.loc_row {w w' : World} {b : Nat} (hs : w.heap.size ≤ w'.heap.size) : ∀ {xs : List α} {o : Nat} {fp : List Nat}, (∀ j, o ≤ j → j < o + xs.length * Shape.size α → w'.cell? ⟨b, j, none⟩ = w.cell? ⟨b, j, none⟩) →
    (∀ c ∈ fp, ∀ o, w'.cell? ⟨c, o, none⟩ = w.cell? ⟨c, o, none⟩) → SlAt w b o xs fp → SlAt w' b o xs fp
  | [], _, _, _, _, h => h
  | x :: xs, o, fp, hr0, hk, h => by
    obtain ⟨cs, f1, f2, hr, hc, ht, rfl⟩ := h
    have hlen : (x :: xs).length * Shape.size α = Shape.size α + xs.length * Shape.size α := by simp [Nat.add_mul]; omega
    refine ⟨cs, f1, f2, fun j v hj => ?_, Shape.loc hs (fun c hc' => hk c (by simp [hc'])) hc, SlAt.loc_row hs (fun j h1 h2 => hr0 j (by omega) (by omega)) (fun c hc' => hk c (by simp [hc'])) ht, rfl⟩
    have hjl : j < cs.length := (List.getElem?_eq_some_iff.1 hj).1
    rw [Shape.len hc] at hjl
    rw [hr0 (o + j) (by omega) (by omega)]; exact hr j v hj
theorem SlAt.snoc {w : World} {b : Nat} {x : α} {cs : List Value} {f1 : List Nat} : ∀ {xs : List α} {o : Nat} {fp : List Nat}, SlAt w b o xs fp → w.rangeAt b (o + xs.length * Shape.size α) cs → Shape.C w cs x f1 → SlAt w b o (xs ++ [x]) (fp ++ f1)
  | [], o, fp, h, hr, hc => by
    cases h
    exact ⟨cs, f1, [], by simpa using hr, hc, rfl, by simp⟩
  | y :: xs, o, fp, h, hr, hc => by
    obtain ⟨cs', g1, g2, hr', hc', ht, rfl⟩ := h
    refine ⟨cs', g1, g2 ++ f1, hr', hc', SlAt.snoc ht ?_ hc, by simp⟩
    rw [show o + Shape.size α + xs.length * Shape.size α = o + (y :: xs).length * Shape.size α by simp [Nat.add_mul]; omega]
    exact hr
end

/-- A block of the call's own that is known whole as to its size: k cells. -/
def Row (w : World) (b e k : Nat) : Prop := ∃ C : Array Value, w.heap[b]? = some (.cells C e (0, 0)) ∧ C.size = k
theorem Row.there {w : World} {b e k : Nat} (h : Row w b e k) (o n : Nat) (hn : o + n ≤ k) : w.there b o n := by
  obtain ⟨C, hC, rfl⟩ := h
  intro j hj
  constructor
  · simp [World.cell?, hC]; omega
  · simp [World.frozen?, hC]
theorem Row.lt {w : World} {b e k : Nat} (h : Row w b e k) : b < w.heap.size := by
  obtain ⟨C, hC, rfl⟩ := h
  exact (Array.getElem?_eq_some_iff.1 hC).1
theorem heap_setCell_same {w : World} {b e : Nat} {C : Array Value} (h : w.heap[b]? = some (.cells C e (0, 0))) (o : Nat) (v : Value) : (w.setCell ⟨b, o, none⟩ v).heap[b]? = some (.cells (C.setIfInBounds o v) e (0, 0)) := by
  simp [World.setCell, Array.getElem?_modify, h]
theorem Row.setCell {w : World} {b e k : Nat} (h : Row w b e k) (o : Nat) (v : Value) : Row (w.setCell ⟨b, o, none⟩ v) b e k := by
  obtain ⟨C, hC, rfl⟩ := h
  exact ⟨_, heap_setCell_same hC o v, by simp⟩
theorem Row.setCells {b e k : Nat} : ∀ (vs : List Value) (o : Nat) {w : World}, Row w b e k → Row (w.setCells b o vs) b e k
  | [], _, _, h => h
  | v :: r, o, w, h => by rw [World.setCells]; exact Row.setCells r (o + 1) (h.setCell o v)
theorem below_setCells {B b : Nat} (hB : B ≤ b) : ∀ (vs : List Value) (o : Nat) (w : World), Below B w (w.setCells b o vs)
  | [], _, w => Below.refl _ _
  | v :: r, o, w => by rw [World.setCells]; exact ((Below.refl B w).setCell (p := ⟨b, o, none⟩) hB v).trans (below_setCells hB r (o + 1) _)
theorem Row.below {w w' : World} {b e k B : Nat} (h : Row w b e k) (hb : Below B w w') (hB : b < B) : Row w' b e k := by
  obtain ⟨C, hC, rfl⟩ := h
  exact ⟨C, by rw [hb.block b hB]; exact hC, rfl⟩
theorem Row.made (w : World) (z : Array Value) (n e : Nat) : Row (w.alloc (.cells (madeCells z n) e)) w.heap.size e n :=
  ⟨_, by show (w.heap.push _)[w.heap.size]? = _; simp, size_madeCells z n⟩
/-- An element has been stored into a row: the elements ahead of it, and this one, lie there. -/
theorem SlAt.store {α : Type} [Shape α] {w : World} {b e k : Nat} {x : α} {cs : List Value} {f1 fp : List Nat} {xs : List α} (hR : Row w b e k) (h : SlAt w b 0 xs fp) (hc : Shape.C w cs x f1) (hk : (xs.length + 1) * Shape.size α ≤ k)
    (hb : ∀ c ∈ fp ++ f1, c ≠ b) : SlAt (w.setCells b (xs.length * Shape.size α) cs) b 0 (xs ++ [x]) (fp ++ f1) := by
  have hcl := Shape.len hc
  have hmul : (xs.length + 1) * Shape.size α = xs.length * Shape.size α + Shape.size α := by rw [Nat.add_mul]; omega
  have hsz : w.heap.size ≤ (w.setCells b (xs.length * Shape.size α) cs).heap.size := (below_setCells (Nat.zero_le b) cs _ w).size
  have hout : ∀ c, c ≠ b → ∀ o, (w.setCells b (xs.length * Shape.size α) cs).cell? ⟨c, o, none⟩ = w.cell? ⟨c, o, none⟩ := fun c hcb o => World.cell?_setCells_out _ _ _ _ _ (fun h => absurd h hcb)
  refine SlAt.snoc (SlAt.loc_row hsz (fun j _ hj => ?_) (fun c hcm o => hout c (hb c (by simp [hcm])) o) h) ?_ (Shape.loc hsz (fun c hcm o => hout c (hb c (by simp [hcm])) o) hc)
  · exact World.cell?_setCells_out _ _ _ _ _ (fun _ _ => .inl (by simp at hj ⊢; omega))
  · simp only [Nat.zero_add]
    exact World.rangeAt_setCells_same _ _ _ _ (hR.there _ _ (by omega))

/-- The walk's law for 'out[i] = x': an element is stored behind those that lie in the row already. -/
theorem wpList_store_elem {P : Program} {α : Type} [Shape α] {ops : Array Oper} {rest : List Oper} {op : Oper} {a : Act} {w : World} {Q : Exit → Act → World → Prop} (hgd : op.guard = none) (ty : TypeId) (x y : Operand) (ho : op.op = .store ty x y)
    (b n : Nat) (e : TypeId) (k s : Nat) (cells : List Value) (v : α) (xs : List α) (f1 fp : List Nat) (hx : a.eval x = .pointer (some ⟨b, n * s, none⟩)) (hy : a.eval y = .agg cells.toArray)
    (hs : Shape.size α = s) (hn : xs.length = n) (hR : Row w b e k) (hS : SlAt w b 0 xs fp) (hc : Shape.C w cells v f1) (hk : (n + 1) * s ≤ k) (hb : ∀ c ∈ fp ++ f1, c ≠ b) (hi : (P.info? ty).map (·.size) = some s)
    (h : ∀ w', Row w' b e k → SlAt w' b 0 (xs ++ [v]) (fp ++ f1) → Below b w w' → wpList P ops Q rest (a.put op.dst undef) w') : wpList P ops Q (op :: rest) a w := by
  subst hs hn
  have hl := Shape.len hc
  have hmul : (xs.length + 1) * Shape.size α = xs.length * Shape.size α + Shape.size α := by rw [Nat.add_mul]; omega
  refine wpList_store_mid hgd ty x y ho b (xs.length * Shape.size α) cells.toArray hx hy (hR.there _ _ (by simp; omega)) (by simpa [hl] using hi) (all_oneCell_toArray (Shape.one hc)) ?_
  exact h _ (Row.setCells _ _ hR) (SlAt.store hR hS hc hk hb) (below_setCells (Nat.le_refl b) _ _ _)

/-- A row that was filled from its head is a slice. -/
theorem Sl.of_row {α : Type} [Shape α] {w : World} {b e k c : Nat} {xs : List α} {fp : List Nat} (hl : xs.length ≤ c ∧ c ≤ 9223372036854775807) (hR : Row w b e k) (hS : SlAt w b 0 xs fp) : Sl w (.slice (some ⟨b, 0, none⟩) xs.length c) xs (match xs with | [] => [] | _ => b :: fp) := by
  refine ⟨_, c, rfl, hl.1, hl.2, ?_⟩
  cases xs with
  | nil => exact .inl ⟨rfl, rfl⟩
  | cons x xs => exact .inr ⟨b, 0, fp, by simp, rfl, rfl, hR.lt, hS⟩

/-- A flat type: its cells hang on nothing but the value. -/
@[reducible] def Shape.flat {α : Type} (n : Nat) (cells : α → List Value) (ok : α → Prop) (hl : ∀ x, (cells x).length = n) (h1 : ∀ x, ∀ v ∈ cells x, v.oneCell' = true) : Shape α where
  size := n
  C := fun _ cs x fp => cs = cells x ∧ fp = [] ∧ ok x
  len := fun ⟨h, _⟩ => by rw [h, hl]
  loc := fun _ _ h => h
  one := fun ⟨h, _⟩ => by rw [h]; exact h1 _
  lt := fun ⟨_, h, _⟩ => by subst h; simp

instance : Shape Int := Shape.flat 1 (fun n => [I n]) I64 (fun _ => rfl) (fun _ v hv => by simp at hv; subst hv; rfl)
instance : Shape Bool := Shape.flat 1 (fun b => [.bool b]) (fun _ => True) (fun _ => rfl) (fun _ v hv => by simp at hv; subst hv; rfl)
instance : Shape ByteArray := Shape.flat 1 (fun s => [.string s]) (fun s => s.size ≤ maxLen) (fun _ => rfl) (fun _ v hv => by simp at hv; subst hv; rfl)
instance {α : Type} [Shape α] : Shape (List α) where
  size := 1
  C := fun w cs xs fp => ∃ v, cs = [v] ∧ Sl w v xs fp
  len := fun ⟨_, h, _⟩ => by rw [h]; rfl
  loc := fun hs hk ⟨v, h, hl⟩ => ⟨v, h, hl.loc hk hs⟩
  one := fun ⟨v, h, ao, cap, hv, _⟩ u hu => by subst h; simp at hu; subst hu; subst hv; rfl
  lt := fun ⟨_, _, h⟩ => h.lt

/-- A flat element's cells. -/
theorem rangeAt_cons {w : World} {b o : Nat} {v : Value} {r : List Value} : w.rangeAt b o (v :: r) ↔ w.cell? ⟨b, o, none⟩ = some v ∧ w.rangeAt b (o + 1) r := by
  constructor
  · intro h
    refine ⟨h 0 v rfl, fun j u hj => ?_⟩
    rw [Nat.add_assoc, Nat.add_comm 1 j]
    exact h (j + 1) u hj
  · rintro ⟨h0, h⟩ j u hj
    cases j with
    | zero => simp at hj; subst hj; exact h0
    | succ j =>
      have := h j u hj
      rw [Nat.add_assoc, Nat.add_comm 1 j] at this
      exact this

theorem cells4 {w : World} {b o : Nat} {v0 v1 v2 v3 : Value} (h : w.rangeAt b o [v0, v1, v2, v3]) : w.cell? ⟨b, o, none⟩ = some v0 ∧ w.cell? ⟨b, o + 1, none⟩ = some v1 ∧ w.cell? ⟨b, o + 2, none⟩ = some v2 ∧ w.cell? ⟨b, o + 3, none⟩ = some v3 :=
  ⟨h 0 _ rfl, h 1 _ rfl, h 2 _ rfl, h 3 _ rfl⟩
theorem cells2 {w : World} {b o : Nat} {v0 v1 : Value} (h : w.rangeAt b o [v0, v1]) : w.cell? ⟨b, o, none⟩ = some v0 ∧ w.cell? ⟨b, o + 1, none⟩ = some v1 :=
  ⟨h 0 _ rfl, h 1 _ rfl⟩
theorem rangeAt_below {w w' : World} {b o : Nat} {cs : List Value} (h : w.rangeAt b o cs) (hb : Below w.heap.size w w') : w'.rangeAt b o cs := fun j v hj => by
  have := h j v hj
  rw [hb.cell (World.block_lt_of_cell? w _ this)]; exact this

/-! ### The program's data -/
structure Hand where
  run : Int
  task : Int
  try_ : Int
  at_ : Int
  deriving DecidableEq
def Hand.cells (h : Hand) : List Value := [I h.run, I h.task, I h.try_, I h.at_]
def Hand.ok (h : Hand) : Prop := I64 h.run ∧ I64 h.task ∧ I64 h.try_ ∧ I64 h.at_
instance : Shape Hand := Shape.flat 4 Hand.cells Hand.ok (fun _ => rfl) (fun _ v hv => by simp [Hand.cells] at hv; rcases hv with rfl | rfl | rfl | rfl <;> rfl)
structure Edge where
  from_ : Int
  to_ : Int
  deriving DecidableEq
def Edge.cells (h : Edge) : List Value := [I h.from_, I h.to_]
def Edge.ok (h : Edge) : Prop := I64 h.from_ ∧ I64 h.to_
instance : Shape Edge := Shape.flat 2 Edge.cells Edge.ok (fun _ => rfl) (fun _ v hv => by simp [Edge.cells] at hv; rcases hv with rfl | rfl <;> rfl)
structure Reply where
  code : Int
  run : Int
  task : Int
  try_ : Int
  deriving DecidableEq
def Reply.cells (h : Reply) : List Value := [I h.code, I h.run, I h.task, I h.try_]
def Reply.ok (h : Reply) : Prop := I64 h.code ∧ I64 h.run ∧ I64 h.task ∧ I64 h.try_
instance : Shape Reply := Shape.flat 4 Reply.cells Reply.ok (fun _ => rfl) (fun _ v hv => by simp [Reply.cells] at hv; rcases hv with rfl | rfl | rfl | rfl <;> rfl)
structure Plan where
  prio : Int
  most : Int
  wait : Int
  tasks : Int
  edges : List Edge
  deriving DecidableEq
instance : Shape Plan where
  size := 5
  C := fun w cs p fp => ∃ v, cs = [I p.prio, I p.most, I p.wait, I p.tasks, v] ∧ (I64 p.prio ∧ I64 p.most ∧ I64 p.wait ∧ I64 p.tasks) ∧ Sl w v p.edges fp
  len := fun ⟨v, h, _⟩ => by rw [h]; rfl
  loc := fun hs hk ⟨v, h, h1, hl⟩ => ⟨v, h, h1, hl.loc hk hs⟩
  one := fun ⟨v, h, h1, hl⟩ u hu => by
    obtain ⟨ao, cap, rfl, _⟩ := hl
    subst h
    simp at hu
    rcases hu with rfl | rfl | rfl | rfl | rfl <;> rfl
  lt := fun ⟨_, _, _, h⟩ => h.lt
structure Deed where
  kind : Int
  run : Int
  plan : Plan
  task : Int
  try_ : Int
  worker : Int
  draw : Int
  deriving DecidableEq
instance : Shape Deed where
  size := 11
  C := fun w cs d fp => ∃ v, cs = [I d.kind, I d.run, I d.plan.prio, I d.plan.most, I d.plan.wait, I d.plan.tasks, v, I d.task, I d.try_, I d.worker, I d.draw] ∧
    ((I64 d.kind ∧ I64 d.run ∧ I64 d.task ∧ I64 d.try_ ∧ I64 d.worker ∧ I64 d.draw) ∧ (I64 d.plan.prio ∧ I64 d.plan.most ∧ I64 d.plan.wait ∧ I64 d.plan.tasks)) ∧ Sl w v d.plan.edges fp
  len := fun ⟨v, h, _⟩ => by rw [h]; rfl
  loc := fun hs hk ⟨v, h, h1, hl⟩ => ⟨v, h, h1, hl.loc hk hs⟩
  one := fun ⟨v, h, h1, hl⟩ u hu => by
    obtain ⟨ao, cap, rfl, _⟩ := hl
    subst h
    simp at hu
    rcases hu with rfl | rfl | rfl | rfl | rfl | rfl | rfl | rfl | rfl | rfl | rfl <;> rfl
  lt := fun ⟨_, _, _, h⟩ => h.lt
structure Span where
  deed : Deed
  begin_ : Int
  end_ : Int
  reply : Reply
  deriving DecidableEq
instance : Shape Span where
  size := 17
  C := fun w cs s fp => ∃ c1, Shape.C w c1 s.deed fp ∧ cs = c1 ++ [I s.begin_, I s.end_, I s.reply.code, I s.reply.run, I s.reply.task, I s.reply.try_] ∧ (I64 s.begin_ ∧ I64 s.end_ ∧ s.reply.ok)
  len := fun ⟨c1, h1, h, _⟩ => by rw [h, List.length_append, Shape.len h1]; rfl
  loc := fun hs hk ⟨v, h, h1⟩ => ⟨v, Shape.loc hs hk h, h1⟩
  one := fun ⟨c1, h1, h, _⟩ u hu => by
    subst h
    rcases List.mem_append.1 hu with hu | hu
    · exact Shape.one h1 u hu
    · simp at hu
      rcases hu with rfl | rfl | rfl | rfl | rfl | rfl <;> rfl
  lt := fun ⟨_, h, _⟩ => Shape.lt h

theorem below_drewN {B : Nat} {a w : World} (h : Below B a w) (n : Nat) : Below B a (w.drewN n) := ⟨h.os, h.tape, h.output, h.size, h.block⟩
/-! ### Small numbers -/
/-- A statement as a Bool. -/
noncomputable def pB (p : Prop) : Bool := @decide p (Classical.propDecidable p)
theorem pB_t {p : Prop} (h : p) : pB p = true := by simp [pB, h]
theorem pB_f {p : Prop} (h : ¬ p) : pB p = false := by simp [pB, h]
theorem pB_iff {p : Prop} : pB p = true ↔ p := by simp [pB]
theorem ret_t {p : Prop} (h : p) : Ending.returned (.bool true) = .returned (.bool (pB p)) := by rw [pB_t h]
theorem ret_f {p : Prop} (h : ¬ p) : Ending.returned (.bool false) = .returned (.bool (pB p)) := by rw [pB_f h]
theorem cell_new (w : World) (cs : Array Value) (t j : Nat) (v : Value) (h : cs[j]? = some v) : (w.alloc (.cells cs t)).cell? ⟨w.heap.size, j, none⟩ = some v := by
  rw [World.cell?_alloc_at _ _ _ _ rfl]; exact h
theorem keep_cell {w w' : World} {B : Nat} {b o : Nat} {v : Value} (h : w.cell? ⟨b, o, none⟩ = some v) (hb : Below B w w') (hB : b < B) : w'.cell? ⟨b, o, none⟩ = some v := by
  rw [hb.cell (p := ⟨b, o, none⟩) hB]; exact h
/-- Whether two are the same, behind a name that the walk does not look through. -/
def eqB {α : Type} [DecidableEq α] (a b : α) : Bool := decide (a = b)
theorem eqB_t {α : Type} [DecidableEq α] {a b : α} (h : a = b) : eqB a b = true := by simp [eqB, h]
theorem eqB_f {α : Type} [DecidableEq α] {a b : α} (h : ¬ a = b) : eqB a b = false := by simp [eqB, h]
theorem eqB_iff {α : Type} [DecidableEq α] {a b : α} : eqB a b = true ↔ a = b := by simp [eqB]
def inB (n a b : Int) : Bool := decide (a ≤ n) && decide (n ≤ b)
end Go.Proofs.Ytgkloiodfhmckaa
