/-
  What is owned taken apart and put together; a row that is filled from its head; results that lie in cells.
-/
import Derived.Test.YtchnllpegfbleaaDoorSxMore
namespace Go.Proofs.YtchnllpegfbleaaDoor
set_option linter.unusedSimpArgs false
set_option linter.unusedVariables false
open Go.RowKit

/-- Several owned things, owned as others: the blocks are the same or fewer. -/
theorem St.trade {w0 W : World} {rs1 rs2 rs : List Res} (h : St w0 W (rs1 ++ rs)) (hn : (rs2.flatMap Res.fp).Nodup) (hs : ∀ b ∈ rs2.flatMap Res.fp, b ∈ rs1.flatMap Res.fp) (hb : ∀ r ∈ rs2, r.holds W) : St w0 W (rs2 ++ rs) := by
  have hnd := h.nodup
  rw [List.flatMap_append, List.nodup_append] at hnd
  refine ⟨h.below, ?_, ?_, ?_⟩
  · rw [List.flatMap_append, List.nodup_append]
    exact ⟨hn, hnd.2.1, fun a ha b hb' => hnd.2.2 a (hs a ha) b hb'⟩
  · intro r hr b hb'
    rcases List.mem_append.1 hr with hr | hr
    · obtain ⟨s, hs', hsb⟩ := List.mem_flatMap.1 (hs b (List.mem_flatMap.2 ⟨r, hr, hb'⟩))
      exact h.fresh s (List.mem_append_left _ hs') b hsb
    · exact h.fresh r (List.mem_append_right _ hr) b hb'
  · intro r hr
    rcases List.mem_append.1 hr with hr | hr
    · exact hb r hr
    · exact h.holds r (List.mem_append_right _ hr)
theorem St.trade1 {w0 W : World} {r r' : Res} {rs : List Res} (h : St w0 W (r :: rs)) (hf : r'.fp = r.fp) (hb : r.holds W → r'.holds W) : St w0 W (r' :: rs) := by
  refine St.trade (rs1 := [r]) (rs2 := [r']) h ?_ ?_ ?_
  · have := h.nodup
    rw [List.flatMap_cons, List.nodup_append] at this
    simpa [hf] using this.1
  · intro b hb'; simpa [hf] using hb'
  · intro s hs; simp at hs; subst hs; exact hb (h.get 0 rfl)
theorem own_lt {α : Type} [Shape α] [Agg α] {v : Value} {x : α} {fp : List Nat} {W : World} (h : (Res.own v x fp).holds W) : ∀ b ∈ fp, Wr W b := h.2

/-- Something owned, with blocks that come along. -/
def Res.plus (r : Res) (fz : List Nat) : Res where
  fp := r.fp ++ fz
  holds := fun W => r.holds W ∧ ∀ c ∈ fz, Wr W c
  loc := fun hs hb h => ⟨r.loc hs (fun c hm => hb c (List.mem_append_left _ hm)) h.1, fun c hm => (h.2 c hm).loc (hb c (List.mem_append_right _ hm))⟩
  wr := fun h c hc => (List.mem_append.1 hc).elim (fun hc => r.wr h.1 c hc) (fun hc => h.2 c hc)
/-- Cells that stand for z, all it leads to being owned. -/
def Res.cs {α : Type} [Shape α] (cs : List Value) (z : α) (fz : List Nat) : Res where
  fp := fz
  holds := fun W => Shape.C W cs z fz ∧ ∀ b ∈ fz, Wr W b
  loc := fun hs hb h => ⟨Shape.loc hs (fun c hc o => cell_of_heap (hb c hc) o) h.1, fun c hc => (h.2 c hc).loc (hb c hc)⟩
  wr := fun h => h.2
theorem St.cs {α : Type} [Shape α] [Agg α] {w0 W : World} {cs : List Value} {x : α} {fp : List Nat} {rs : List Res} (h : St w0 W (Res.own (.agg cs.toArray) x fp :: rs)) (ha : Agg.agg α = true) : St w0 W (Res.cs cs x fp :: rs) :=
  h.trade1 rfl (fun h => ⟨own_C h ha, h.2⟩)
theorem St.cs1 {α : Type} [Shape α] {w0 W : World} {v : Value} {x : List α} {fp : List Nat} {rs : List Res} (h : St w0 W (Res.own v x fp :: rs)) : St w0 W (Res.cs [v] x fp :: rs) :=
  h.trade1 rfl (fun h => ⟨⟨v, rfl, own_Sl h⟩, h.2⟩)
theorem St.cs0 {α : Type} [Shape α] {w0 W : World} {cs : List Value} {x : α} {rs : List Res} (h : St w0 W rs) (hc : Shape.C W cs x []) : St w0 W (Res.cs cs x [] :: rs) :=
  h.trade (rs1 := []) (rs2 := [Res.cs cs x []]) (show ([] : List Nat).Nodup from List.nodup_nil) (fun b hb => absurd (show b ∈ ([] : List Nat) from hb) (by simp)) (by intro r hr; simp at hr; subst hr; exact ⟨hc, by simp⟩)
section
variable {α : Type} [Shape α]
/-- A row of N elements, of which the first are laid. -/
def Res.fill (e : TypeId) (b N : Nat) (xs : List α) (fe : List Nat) : Res where
  fp := b :: fe
  holds := fun W => (∃ C : Array Value, W.heap[b]? = some (.cells C e (0, 0)) ∧ C.size = N * Shape.size α) ∧ SlAt W b 0 xs fe ∧ xs.length ≤ N ∧ ∀ c ∈ fe, Wr W c
  loc := by
    rintro W W' hs hb ⟨⟨C, h1, h2⟩, h3, h4, h5⟩
    refine ⟨⟨C, by rw [hb b (by simp)]; exact h1, h2⟩, SlAt.loc hs (fun c hc o => cell_of_heap (hb c (by simpa using hc)) o) h3, h4, fun c hc => (h5 c hc).loc (hb c (by simp [hc]))⟩
  wr := by
    rintro W ⟨⟨C, h1, h2⟩, h3, h4, h5⟩ c hc
    rcases List.mem_cons.1 hc with rfl | hc
    · exact ⟨_, _, h1⟩
    · exact h5 c hc
theorem St.fill {w0 W : World} {rs : List Res} {e : TypeId} {b N : Nat} {C : List Value} (h : St w0 W (Res.bx b C e :: rs)) (hl : C.length = N * Shape.size α) : St w0 W (Res.fill (α := α) e b N [] [] :: rs) :=
  h.trade1 rfl (fun hb => ⟨⟨C.toArray, hb, by simpa using hl⟩, rfl, Nat.zero_le _, by simp⟩)
/-- All elements are laid. -/
theorem St.full {w0 W : World} {rs : List Res} {e : TypeId} {b N : Nat} {xs : List α} {fe : List Nat} (h : St w0 W (Res.fill e b N xs fe :: rs)) (hl : xs.length = N) (hN : N ≤ 9223372036854775807) : ∃ fp, St w0 W (Res.own (.slice (some ⟨b, 0, none⟩) N N) xs fp :: rs) := by
  obtain ⟨⟨C, h1, h2⟩, h3, h4, h5⟩ := h.get 0 rfl
  have hnd := h.nodup
  rw [List.flatMap_cons, List.nodup_append] at hnd
  have hb : b < W.heap.size := (Array.getElem?_eq_some_iff.1 h1).1
  subst hl
  by_cases hx : xs = []
  · subst hx
    refine ⟨[], St.trade (rs1 := [Res.fill e b _ [] fe]) (rs2 := [Res.own _ _ _]) h (by simp [Res.own]) (by simp [Res.own]) ?_⟩
    intro r hr
    simp at hr; subst hr
    exact ⟨Sl.v ⟨_, _, rfl, Nat.le_refl _, hN, .inl ⟨rfl, rfl⟩⟩, by simp⟩
  · refine ⟨b :: fe, St.trade (rs1 := [Res.fill e b _ xs fe]) (rs2 := [Res.own _ _ _]) h (by simp only [List.flatMap_cons, List.flatMap_nil, List.append_nil]; exact hnd.1) (by simp [Res.own, Res.fill]) ?_⟩
    intro r hr
    simp at hr; subst hr
    refine ⟨Sl.v ⟨_, _, rfl, Nat.le_refl _, hN, .inr ⟨b, 0, fe, hx, rfl, rfl, hb, h3⟩⟩, ?_⟩
    intro c hc
    rcases List.mem_cons.1 hc with rfl | hc
    · exact ⟨_, _, h1⟩
    · exact h5 c hc
end

section
variable {P : Program} {n : Nat} {f : Nat → Value} {W w0 : World} {rs : List Res} {Q : Exit → Act → World → Prop} {K : Value → World → Prop}
  {d : Option Tmp} {ty : TypeId} {pos : String} {af : Array Edge} {g : Option (Nat × Bool)} {α : Type} [Shape α]

/-- make: a row of zeros, to be filled. -/
theorem stp_make {t e : TypeId} {bytes : Nat} {x y : Operand} {N : Nat} (hT : ApOk P t e α bytes) (hx : ev n f x = I (N : Int)) (hy : ev n f y = I (N : Int)) (hN : N ≤ 1048576 * 64) (hb : N * bytes ≤ 140737488355328) (hst : St w0 W rs)
    (k : ∀ b W', Below W.heap.size W W' → St w0 W' (Res.fill (α := α) e b N [] [] :: rs) → K (.slice (some ⟨b, 0, none⟩) N N) W') : Stp P n ⟨d, .makeSlice t x y, ty, pos, af, g⟩ f W Q K := by
  obtain ⟨i, z, hi, hz, h1, h2, h3⟩ := hT.info
  have hb' : (N : Int) * (bytes : Int) ≤ 140737488355328 := by have := Int.ofNat_le.2 hb; rw [Int.natCast_mul] at this; exact this
  have hmk := run_make (P := P) W t e i z hT.desc hi hz .i64 .i64 N N (by omega) (by omega) (by rw [h2, Int.mul_comm]; omega) (by omega)
  rw [Int.toNat_natCast] at hmk
  refine Stp.run (v := .slice (some ⟨W.heap.size, 0, none⟩) N N) (W' := W.alloc (.cells (madeCells z.cells (N * i.size)) e)) (by simp only [execOp, hx, hy, Sem.run_bind, hmk]; rfl) (k _ _ (below_alloc (Below.refl _ _)) ?_)
  have h := (hst.alloc (madeCells z.cells (N * i.size)).toList e)
  have h4 : ((madeCells z.cells (N * i.size)).toList).length = N * Shape.size α := by rw [Array.length_toList, size_madeCells, h1]
  exact St.fill h h4
theorem PA_row {b N i k : Nat} (h : i < N) : PA (.slice (some ⟨b, 0, none⟩) N N) k i b (0 + i * k) := ⟨0, N, N, rfl, h, rfl⟩
/-- The next element is laid: a struct of the call's own. -/
theorem stp_store_fill {t e : TypeId} {x y : Operand} {b N o : Nat} {xs : List α} {fe : List Nat} {cs : List Value} {z : α} {fz : List Nat} {v : Value} (hi : (P.info? t).map (·.size) = some (Shape.size α)) (hx : ev n f x = .pointer (some ⟨b, o, none⟩)) (ho : o = 0 + xs.length * Shape.size α) (hy : ev n f y = v)
    (hv : v = .agg cs.toArray ∨ (cs = [v] ∧ v.cells = #[v])) (hst : St w0 W (Res.cs cs z fz :: Res.fill e b N xs fe :: rs)) (hlt : xs.length < N)
    (k : ∀ W', St w0 W' (Res.fill e b N (xs ++ [z]) (fe ++ fz) :: rs) → K undef W') : Stp P n ⟨d, .store t x y, ty, pos, af, g⟩ f W Q K := by
  subst ho
  obtain ⟨hz, hzw⟩ := hst.get 0 rfl
  obtain ⟨⟨C, h1, h2⟩, h3, h4, h5⟩ := hst.get 1 rfl
  have hnd := hst.nodup
  have hmul : (xs.length + 1) * Shape.size α = xs.length * Shape.size α + Shape.size α := by rw [Nat.add_mul]; omega
  have hle : (xs.length + 1) * Shape.size α ≤ N * Shape.size α := Nat.mul_le_mul_right _ hlt
  have hl := Shape.len hz
  have hR : Row W b e (N * Shape.size α) := ⟨C, h1, h2⟩
  have hth : W.there b (0 + xs.length * Shape.size α) cs.length := hR.there _ _ (by rw [hl]; omega)
  have hrun : (Instr.storeAt t (.pointer (some ⟨b, 0 + xs.length * Shape.size α, none⟩)) v).run P W = .ok () (W.setCells b (0 + xs.length * Shape.size α) cs) := by
    rcases hv with rfl | ⟨rfl, hv1⟩
    · exact run_storeAt_mid (P := P) W b _ t cs.toArray (by simpa using hth) (by simpa [hl] using hi) (all_oneCell_toArray (Shape.one hz))
    · exact run_storeAt_one P W t b _ v (by rw [hi, ← hl]; rfl) hv1 (Shape.one hz v (by simp)) (by simpa using hth)
  refine Stp.unit (W' := W.setCells b (0 + xs.length * Shape.size α) cs) (by simp only [execOp, hx, hy, Sem.run_bind, hrun]; rfl) (k _ ?_)
  -- the row and what goes into it, taken together
  simp only [List.flatMap_cons] at hnd
  rw [List.nodup_append, List.nodup_append] at hnd
  obtain ⟨hn1, ⟨hn2, hn3, hn4⟩, hn5⟩ := hnd
  have hn2' : (b :: fe).Nodup := hn2
  have hbfe : b ∉ fe := (List.nodup_cons.1 hn2').1
  have hdis : ∀ c ∈ fz, c ≠ b ∧ c ∉ fe := fun c hc => ⟨fun e => hn5 c hc b (List.mem_append_left _ (by simp [Res.fill])) e, fun h => hn5 c hc c (List.mem_append_left _ (by simp [Res.fill, h])) rfl⟩
  have hne : ∀ c ∈ fe ++ fz, c ≠ b := by
    intro c hc e
    rcases List.mem_append.1 hc with hc | hc
    · subst e; exact hbfe hc
    · exact (hdis c hc).1 e
  have hst2 : St w0 W (Res.plus (Res.fill e b N xs fe) fz :: rs) := by
    refine St.trade (rs1 := [_, Res.fill e b N xs fe]) (rs2 := [_]) hst ?_ ?_ ?_
    · simp only [List.flatMap_cons, List.flatMap_nil, List.append_nil]
      show ((b :: fe) ++ fz).Nodup
      rw [List.cons_append, List.nodup_cons, List.nodup_append]
      exact ⟨fun h => hne b h rfl, (List.nodup_cons.1 hn2').2, hn1, fun a ha c hc e => (hdis c hc).2 (by rw [← e]; exact ha)⟩
    · intro c hc
      simp only [List.flatMap_cons, List.flatMap_nil, List.append_nil, Res.plus] at hc
      simp only [List.flatMap_cons, List.flatMap_nil, List.append_nil, List.mem_append]
      rcases List.mem_append.1 hc with hc | hc
      · exact .inr hc
      · exact .inl hc
    · intro r hr
      simp only [List.mem_singleton] at hr
      subst hr
      exact ⟨hst.get 1 rfl, hzw⟩
  have hbel : Below b W (W.setCells b (0 + xs.length * Shape.size α) cs) := below_setCells (Nat.le_refl b) _ _ _
  have hblock : ∀ c, c ≠ b → (W.setCells b (0 + xs.length * Shape.size α) cs).heap[c]? = W.heap[c]? := by
    intro c hc
    have hc1 : ∀ (vs : List Value) (o : Nat) (w : World), (w.setCells b o vs).heap[c]? = w.heap[c]? := by
      intro vs
      induction vs with
      | nil => intro o w; rfl
      | cons u r ih => intro o w; rw [World.setCells, ih]; exact Below.heap_setCell _ _ _ _ hc
    exact hc1 _ _ _
  refine hst2.turn hbel.os hbel.tape hbel.output hbel.size (fun c _ hne' => hblock c (fun e => hne' (by simp [e, Res.plus, Res.fill]))) ?_ ?_ (fun c hc => .inl (by simpa [Res.plus, Res.fill] using hc))
  · refine ⟨?_, ?_, by simp; omega, ?_⟩
    · obtain ⟨C', hC', hs'⟩ := Row.setCells cs (0 + xs.length * Shape.size α) hR
      exact ⟨C', hC', hs'⟩
    · have := SlAt.store hR h3 hz (by omega) hne
      rwa [Nat.zero_add]
    · intro c hc
      refine Wr.loc ?_ (hblock c (hne c hc))
      rcases List.mem_append.1 hc with hc | hc
      · exact h5 c hc
      · exact hzw c hc
  · show (b :: (fe ++ fz)).Nodup
    rw [List.nodup_cons, List.nodup_append]
    exact ⟨fun h => hne b h rfl, (List.nodup_cons.1 hn2').2, hn1, fun a ha c hc e => (hdis c hc).2 (by rw [← e]; exact ha)⟩
/-- A result that lies in a cell: one struct. -/
theorem retc1 {fn : Func} {s : Tmp} {t : TypeId} {R : Ending → World → Prop} {b : Nat} {C : List Value} {t' : TypeId} [Agg α] (hT : TyOk P t α) (ha : Agg.agg α = true) (hr : fn.results = #[.cell s t]) (hv : ev n f (.tmp s) = .pointer (some ⟨b, 0, none⟩)) (hB : (Res.bx b C t').holds W) (hl : C.length = Shape.size α) (h : R (.returned (.agg C.toArray)) W) : bodyPost P fn R .ret (act n f) W := by
  refine ⟨rfl, .agg C.toArray, ?_, h⟩
  have h1 := hT.load (range_of_heap hB) hl
  simp only [val, ha, cond_true, Instr.loadAt, Instr.sureAddr, Sem.run_bind, Sem.run_pure, Result.andThen_ok] at h1
  have e : (act n f).tmps.getD s undef = .pointer (some ⟨b, 0, none⟩) := by rw [act_get]; exact hv
  rw [Array.getD_eq_getD_getElem?] at e
  simp [results, hr, e, asAddr, h1]
end
/-! ### Whole structs whose cells stay under one name -/
section
variable {P : Program} {n : Nat} {f : Nat → Value} {W w0 : World} {rs : List Res} {Q : Exit → Act → World → Prop} {K : Value → World → Prop}
  {d : Option Tmp} {ty : TypeId} {pos : String} {af : Array Edge} {g : Option (Nat × Bool)} {α : Type} [Shape α] [Agg α]
theorem stp_store_all {t t' : TypeId} {x y : Operand} {b : Nat} {cs C : List Value} {w : World} {z : α} {fp : List Nat} (hT : TyOk P t α) (hc : Shape.C w cs z fp) (hx : ev n f x = .pointer (some ⟨b, 0, none⟩)) (hy : ev n f y = .agg cs.toArray)
    (hst : St w0 W (Res.bx b C t' :: rs)) (hl : C.length = Shape.size α) (k : ∀ W', St w0 W' (Res.bx b cs t' :: rs) → K undef W') :
    Stp P n ⟨d, .store t x y, ty, pos, af, g⟩ f W Q K :=
  stp_store_agg (by rw [Shape.len hc]; exact hT.size) hx hy (Shape.one hc) hst (by rw [Shape.len hc, hl]; omega) (splice_all C cs (by rw [Shape.len hc, hl])) k
theorem stp_load_bxa {t t' : TypeId} {x : Operand} {b : Nat} {C : List Value} (hT : TyOk P t α) (ha : Agg.agg α = true) (hx : ev n f x = .pointer (some ⟨b, 0, none⟩)) (hB : (Res.bx b C t').holds W) (hl : C.length = Shape.size α) (k : K (.agg C.toArray) W) :
    Stp P n ⟨d, .load t x, ty, pos, af, g⟩ f W Q K :=
  stp_load_bxs hT ha hx hB (by rw [List.drop_zero, List.take_of_length_le (by omega)]) hl k
theorem stp_load_rga {t : TypeId} {w : World} {x : Operand} {b o : Nat} {C : List Value} (hT : TyOk P t α) (ha : Agg.agg α = true) (hx : ev n f x = .pointer (some ⟨b, o, none⟩)) (hr : w.rangeAt b o C) (hb : Below w.heap.size w W) (hl : C.length = Shape.size α) (k : K (.agg C.toArray) W) :
    Stp P n ⟨d, .load t x, ty, pos, af, g⟩ f W Q K :=
  stp_load_rgs (i := 0) hT ha hx hr hb rfl (by rw [List.drop_zero, List.take_of_length_le (by omega)]) hl k
end
section
variable {P : Program} {n : Nat} {f : Nat → Value} {W w0 : World} {α : Type} [Shape α] [Agg α]
/-- Results: a struct in a cell, and a value. -/
theorem retct {fn : Func} {s u : Tmp} {t : TypeId} {R : Ending → World → Prop} {b : Nat} {C : List Value} {t' : TypeId} {v : Value} (hT : TyOk P t α) (ha : Agg.agg α = true) (hr : fn.results = #[.cell s t, .tmp u]) (hv : ev n f (.tmp s) = .pointer (some ⟨b, 0, none⟩)) (hB : (Res.bx b C t').holds W) (hl : C.length = Shape.size α) (hu : ev n f (.tmp u) = v) (h : R (.returned (.tuple #[.agg C.toArray, v])) W) : bodyPost P fn R .ret (act n f) W := by
  refine ⟨rfl, .tuple #[.agg C.toArray, v], ?_, h⟩
  have h1 := hT.load (range_of_heap hB) hl
  simp only [val, ha, cond_true, Instr.loadAt, Instr.sureAddr, Sem.run_bind, Sem.run_pure, Result.andThen_ok] at h1
  have e : (act n f).tmps.getD s undef = .pointer (some ⟨b, 0, none⟩) := by rw [act_get]; exact hv
  have e2 : (act n f).tmps.getD u undef = v := by rw [act_get]; exact hu
  rw [Array.getD_eq_getD_getElem?] at e e2
  simp [results, hr, e, e2, asAddr, h1]
end
theorem bd (b : Bool) : b = false ∨ b = true := by cases b <;> simp
theorem yl_on {v : Value} {e w : Bool} (h : v = .bool e) (he : e = w) : yl v = some w := by subst h he; rfl
theorem yl_off {v : Value} {e w : Bool} (h : v = .bool e) (he : e = !w) : (yl v == some w) = false := by subst h he; cases w <;> rfl
theorem yl_und {v : Value} {w : Bool} (h : v = undef) : (yl v == some w) = false := by subst h; rfl
/-! ### Operands, one by one -/
theorem mnil {n : Nat} {f : Nat → Value} : ([] : List Operand).map (ev n f) = [] := rfl
theorem mcons {n : Nat} {f : Nat → Value} {x : Operand} {xs : List Operand} {v : Value} {vs : List Value} (h : ev n f x = v) (hr : xs.map (ev n f) = vs) : (x :: xs).map (ev n f) = v :: vs := by rw [List.map_cons, h, hr]
theorem pnil {n : Nat} {f : Nat → Value} : ([] : List (Nat × Operand)).map (fun (i, x) => (i, ev n f x)) = [] := rfl
theorem pcons {n : Nat} {f : Nat → Value} {i : Nat} {x : Operand} {xs : List (Nat × Operand)} {v : Value} {vs : List (Nat × Value)} (h : ev n f x = v) (hr : xs.map (fun (i, x) => (i, ev n f x)) = vs) : ((i, x) :: xs).map (fun (i, x) => (i, ev n f x)) = (i, v) :: vs := by rw [List.map_cons, hr]; simp only [h]
theorem Res.below {r : Res} {W W' : World} (h : r.holds W) (hb : Below W.heap.size W W') : r.holds W' := r.loc hb.size (fun b hm => hb.block b (r.wr h b hm).lt) h
/-! ### Calls, by the number of arguments -/
section
variable {P : Program} {n : Nat} {f : Nat → Value} {W : World} {Q : Exit → Act → World → Prop} {K : Value → World → Prop}
  {d : Option Tmp} {ty : TypeId} {pos : String} {af : Array Edge} {g : Option (Nat × Bool)} {F : FuncId} {ats : Array TypeId} {fn : Func}
theorem stp_call0 (hfn : P.funcs[F]? = some fn) (hok : ((fn.name == "runtime.NumGoroutine") || fn.body.isNone) = false) (h : Calls P F #[] W fun e W' => ∃ v, e = .returned v ∧ K v W') : Stp P n ⟨d, .call { callee := .value (.func F), args := #[], argTypes := ats }, ty, pos, af, g⟩ f W Q K :=
  stp_call (xs := []) (av := []) hfn hok (by simp only [List.map_cons, List.map_nil]) h
theorem stp_call1 {x0 : Operand} {v0 : Value} (hfn : P.funcs[F]? = some fn) (hok : ((fn.name == "runtime.NumGoroutine") || fn.body.isNone) = false) (h0 : ev n f x0 = v0) (h : Calls P F #[v0] W fun e W' => ∃ v, e = .returned v ∧ K v W') : Stp P n ⟨d, .call { callee := .value (.func F), args := #[x0], argTypes := ats }, ty, pos, af, g⟩ f W Q K :=
  stp_call (xs := [x0]) (av := [v0]) hfn hok (by simp only [List.map_cons, List.map_nil, h0]) h
theorem stp_call2 {x0 x1 : Operand} {v0 v1 : Value} (hfn : P.funcs[F]? = some fn) (hok : ((fn.name == "runtime.NumGoroutine") || fn.body.isNone) = false) (h0 : ev n f x0 = v0) (h1 : ev n f x1 = v1) (h : Calls P F #[v0, v1] W fun e W' => ∃ v, e = .returned v ∧ K v W') : Stp P n ⟨d, .call { callee := .value (.func F), args := #[x0, x1], argTypes := ats }, ty, pos, af, g⟩ f W Q K :=
  stp_call (xs := [x0, x1]) (av := [v0, v1]) hfn hok (by simp only [List.map_cons, List.map_nil, h0, h1]) h
theorem stp_call3 {x0 x1 x2 : Operand} {v0 v1 v2 : Value} (hfn : P.funcs[F]? = some fn) (hok : ((fn.name == "runtime.NumGoroutine") || fn.body.isNone) = false) (h0 : ev n f x0 = v0) (h1 : ev n f x1 = v1) (h2 : ev n f x2 = v2) (h : Calls P F #[v0, v1, v2] W fun e W' => ∃ v, e = .returned v ∧ K v W') : Stp P n ⟨d, .call { callee := .value (.func F), args := #[x0, x1, x2], argTypes := ats }, ty, pos, af, g⟩ f W Q K :=
  stp_call (xs := [x0, x1, x2]) (av := [v0, v1, v2]) hfn hok (by simp only [List.map_cons, List.map_nil, h0, h1, h2]) h
theorem stp_call4 {x0 x1 x2 x3 : Operand} {v0 v1 v2 v3 : Value} (hfn : P.funcs[F]? = some fn) (hok : ((fn.name == "runtime.NumGoroutine") || fn.body.isNone) = false) (h0 : ev n f x0 = v0) (h1 : ev n f x1 = v1) (h2 : ev n f x2 = v2) (h3 : ev n f x3 = v3) (h : Calls P F #[v0, v1, v2, v3] W fun e W' => ∃ v, e = .returned v ∧ K v W') : Stp P n ⟨d, .call { callee := .value (.func F), args := #[x0, x1, x2, x3], argTypes := ats }, ty, pos, af, g⟩ f W Q K :=
  stp_call (xs := [x0, x1, x2, x3]) (av := [v0, v1, v2, v3]) hfn hok (by simp only [List.map_cons, List.map_nil, h0, h1, h2, h3]) h
theorem stp_call5 {x0 x1 x2 x3 x4 : Operand} {v0 v1 v2 v3 v4 : Value} (hfn : P.funcs[F]? = some fn) (hok : ((fn.name == "runtime.NumGoroutine") || fn.body.isNone) = false) (h0 : ev n f x0 = v0) (h1 : ev n f x1 = v1) (h2 : ev n f x2 = v2) (h3 : ev n f x3 = v3) (h4 : ev n f x4 = v4) (h : Calls P F #[v0, v1, v2, v3, v4] W fun e W' => ∃ v, e = .returned v ∧ K v W') : Stp P n ⟨d, .call { callee := .value (.func F), args := #[x0, x1, x2, x3, x4], argTypes := ats }, ty, pos, af, g⟩ f W Q K :=
  stp_call (xs := [x0, x1, x2, x3, x4]) (av := [v0, v1, v2, v3, v4]) hfn hok (by simp only [List.map_cons, List.map_nil, h0, h1, h2, h3, h4]) h
/-- A call of a function value. -/
theorem stp_callf {t : Tmp} {xs : List Operand} {av first capt : List Value} (hfn : P.funcs[F]? = some fn) (hok : ((fn.name == "runtime.NumGoroutine") || fn.body.isNone) = false) (hf : ev n f (.tmp t) = .func (.func F) first.toArray capt.toArray) (hav : xs.map (ev n f) = av)
    (h : Calls P F (first ++ av ++ capt).toArray W fun e W' => ∃ v, e = .returned v ∧ K v W') : Stp P n ⟨d, .call { callee := .value (.tmp t), args := xs.toArray, argTypes := ats }, ty, pos, af, g⟩ f W Q K := by
  refine ⟨?_⟩
  unfold Oper.wp
  rw [act_eval]
  have hrun : (execOp (ev n f) ⟨d, .call { callee := .value (.tmp t), args := xs.toArray, argTypes := ats }, ty, pos, af, g⟩).run P W = .ok (.enter F (first ++ av ++ capt).toArray) W := by
    have e2 : xs.toArray.map (ev n f) = av.toArray := by rw [← hav]; simp
    simp only [Bool.or_eq_false_iff] at hok
    have h1 : fn.name ≠ "runtime.NumGoroutine" := by simpa using hok.1
    have h2 : fn.body ≠ none := by intro h; rw [h] at hok; cases hok.2
    simp only [execOp, resolve, e2, hf, Deferred.ofValue, Sem.run_bind, Sem.run_pure, Result.andThen_ok, invoke]
    simp [callFunc, hfn, h1, h2]
  rw [hrun]
  refine h.mono ?_
  rintro e W' ⟨v, rfl, hk⟩
  exact ⟨v, by rw [act_put], hk⟩
theorem stp_makeFunc {fnn : Fn} {first captured : List Operand} {fv cv : List Value} (h1 : first.map (ev n f) = fv) (h2 : captured.map (ev n f) = cv) (k : K (.func fnn fv.toArray cv.toArray) W) : Stp P n ⟨d, .makeFunc fnn first.toArray captured.toArray, ty, pos, af, g⟩ f W Q K :=
  Stp.run (v := .func fnn fv.toArray cv.toArray) (by
    have e1 : first.toArray.map (ev n f) = fv.toArray := by rw [← h1]; simp
    have e2 : captured.toArray.map (ev n f) = cv.toArray := by rw [← h2]; simp
    simp only [execOp, e1, e2, Instr.makeFunc, Sem.run_bind, Sem.run_pure, Result.andThen_ok]) k
theorem stp_extract {x : Operand} {i : Nat} {vs : Array Value} {v : Value} (hx : ev n f x = .tuple vs) (hi : vs[i]? = some v) (k : K v W) : Stp P n ⟨d, .extract x i, ty, pos, af, g⟩ f W Q K :=
  Stp.run (v := v) (by simp [execOp, hx, Instr.extract, Sem.run_bind, hi]) k
/-- A guarded operation of a plain region. -/
theorem sx_on {o : Oper} {ops : Array Oper} {rest : List Oper} {j dd : Nat} {w : Bool} (hg : o.guard = some (j, w)) (hd : (ops[j]?).bind (·.dst) = some dd) (hn : dd < n) (hy : yl (f dd) = some w) (h : Stp P n o f W Q (fun v W' => Wl P ops Q rest n (putF f o.dst v) W')) : Wl P ops Q (o :: rest) n f W := by
  refine ⟨?_⟩
  unfold wpList
  have hw : Region.wanted o (yielded ops (act n f).tmps) = true := by
    have e2 : (act n f).tmps[dd]? = some (f dd) := by simp [act, hn]
    simp only [Region.wanted, hg, yielded, hd, Option.bind_some, e2]
    revert hy
    cases f dd <;> simp [yl]
  rw [if_pos hw]
  exact .inl (Oper.wp_mono (fun _ _ ⟨v, e, k⟩ => by rw [e]; exact k.out) h.out)
theorem sx_off {o : Oper} {ops : Array Oper} {rest : List Oper} {j dd : Nat} {w : Bool} (hg : o.guard = some (j, w)) (hd : (ops[j]?).bind (·.dst) = some dd) (hn : dd < n) (hy : (yl (f dd) == some w) = false) (h : Wl P ops Q rest n (putF f o.dst undef) W) : Wl P ops Q (o :: rest) n f W := by
  refine ⟨?_⟩
  unfold wpList
  have hw : Region.wanted o (yielded ops (act n f).tmps) = false := by
    have e2 : (act n f).tmps[dd]? = some (f dd) := by simp [act, hn]
    simp only [Region.wanted, hg, yielded, hd, Option.bind_some, e2]
    revert hy
    cases f dd <;> simp [yl]
  rw [if_neg (by simp [hw]), act_put]
  exact h.out
end
end Go.Proofs.YtchnllpegfbleaaDoor
