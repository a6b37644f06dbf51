/-
  An element of an owned slice, lent: its block written out around it; what else the slice holds stays aside until it is given back.
-/
import Derived.Test.YtchnllpegfbleaaDoorSxSlice
namespace Go.Proofs.YtchnllpegfbleaaDoor
set_option linter.unusedSimpArgs false
set_option linter.unusedVariables false
set_option maxRecDepth 100000
open Go.RowKit

section
variable {α : Type} [Shape α]
theorem Elems.split {W : World} : ∀ {xs : List α} {cells : List Value} {fp : List Nat} (i : Nat) (hi : i < xs.length), Elems W cells xs fp → ∃ c1 cs c2 f1 fi f2, cells = c1 ++ cs ++ c2 ∧ fp = f1 ++ fi ++ f2 ∧ c1.length = i * Shape.size α ∧ Elems W c1 (xs.take i) f1 ∧ Shape.C W cs xs[i] fi ∧ Elems W c2 (xs.drop (i + 1)) f2
  | x :: xs, cells, fp, 0, _, ⟨cs, rest, f1, f2, h1, h2, h3, h4⟩ => ⟨[], cs, rest, [], f1, f2, by simpa using h1, by simpa using h4, by simp, ⟨rfl, rfl⟩, h2, by simpa using h3⟩
  | x :: xs, cells, fp, i + 1, hi, ⟨cs, rest, f1, f2, h1, h2, h3, h4⟩ => by
    obtain ⟨c1, cs', c2, g1, gi, g2, a1, a2, a3, a4, a5, a6⟩ := Elems.split i (by simpa using hi) h3
    subst h1 h4 a1 a2
    refine ⟨cs ++ c1, cs', c2, f1 ++ g1, gi, g2, by simp, by simp, ?_, ⟨cs, c1, f1, g1, rfl, h2, a4, rfl⟩, a5, by simpa using a6⟩
    rw [List.length_append, Shape.len h2, a3, Nat.add_mul]; omega
theorem Elems.join {W : World} {xs : List α} {i : Nat} (hi : i < xs.length) {c1 cs c2 : List Value} {f1 fi f2 : List Nat} {y : α} (h1 : Elems W c1 (xs.take i) f1) (h2 : Shape.C W cs y fi) (h3 : Elems W c2 (xs.drop (i + 1)) f2) : Elems W (c1 ++ cs ++ c2) (xs.set i y) (f1 ++ fi ++ f2) := by
  have := (h1.append (Elems.single h2)).append h3
  have e : xs.set i y = xs.take i ++ [y] ++ xs.drop (i + 1) := by
    rw [List.set_eq_take_append_cons_drop, if_pos hi, List.append_assoc]; rfl
  rw [e]; exact this
theorem block_at {W : World} {b off : Nat} {C : Array Value} {e : TypeId} {fr : Nat × Nat} {cells : List Value} (hC : W.heap[b]? = some (.cells C e fr)) (hr : W.rangeAt b off cells) : cells = [] ∨ C.toList = C.toList.take off ++ cells ++ C.toList.drop (off + cells.length) := by
  by_cases hn : cells = []
  · exact .inl hn
  refine .inr ?_
  have hcell : ∀ j v, cells[j]? = some v → C.toList[off + j]? = some v := by
    intro j v hj
    have := hr j v hj
    simp [World.cell?, hC] at this
    simpa using this
  have hlen : off + cells.length ≤ C.toList.length := by
    have hp : 0 < cells.length := List.length_pos_iff.2 hn
    have := hcell (cells.length - 1) _ (List.getElem?_eq_getElem (by omega))
    have := (List.getElem?_eq_some_iff.1 this).1
    omega
  apply List.ext_getElem?
  intro j
  by_cases h1 : j < off
  · rw [List.append_assoc, List.getElem?_append_left (by rw [List.length_take]; omega), List.getElem?_take, if_pos h1]
  · rw [List.append_assoc, List.getElem?_append_right (by rw [List.length_take]; omega), List.length_take, Nat.min_eq_left (by omega)]
    by_cases h2 : j - off < cells.length
    · rw [List.getElem?_append_left h2]
      have := hcell (j - off) _ (List.getElem?_eq_getElem h2)
      rw [show off + (j - off) = j by omega] at this
      rw [this, List.getElem?_eq_getElem h2]
    · rw [List.getElem?_append_right (by omega), List.getElem?_drop]
      congr 1; omega

/-- What an owned slice holds besides the element that is lent. -/
def Res.rest (v : Value) (b : Nat) (pre post : List Value) (xs : List α) (i : Nat) (fr : List Nat) : Res where
  fp := fr
  holds := fun W => (∃ off cap f1 f2 p0 c1 c2 q0, v = .slice (some ⟨b, off, none⟩) xs.length cap ∧ xs.length ≤ cap ∧ cap ≤ 9223372036854775807 ∧ i < xs.length ∧ pre = p0 ++ c1 ∧ p0.length = off ∧ post = c2 ++ q0 ∧ Elems W c1 (xs.take i) f1 ∧ Elems W c2 (xs.drop (i + 1)) f2 ∧ fr = f1 ++ f2) ∧ ∀ c ∈ fr, Wr W c
  loc := by
    rintro W W' hs hb ⟨⟨off, cap, f1, f2, p0, c1, c2, q0, h1, h2, h3, h4, h5, h6, h7, h8, h9, rfl⟩, hw⟩
    exact ⟨⟨off, cap, f1, f2, p0, c1, c2, q0, h1, h2, h3, h4, h5, h6, h7, h8.loc hs (fun b hm => hb b (List.mem_append_left _ hm)), h9.loc hs (fun b hm => hb b (List.mem_append_right _ hm)), rfl⟩, fun c hc => (hw c hc).loc (hb c hc)⟩
  wr := fun h => h.2

theorem St.lend (hp : 0 < Shape.size α) {w0 W : World} {rs : List Res} {v : Value} {xs : List α} {fp : List Nat} (h : St w0 W (Res.own v xs fp :: rs)) {i : Nat} (hi : i < xs.length) : ∃ b e pre cs post fi fr, PA v (Shape.size α) i b pre.length ∧ Shape.C W cs xs[i] fi ∧
    St w0 W (Res.bx b (pre ++ cs ++ post) e :: Res.cs cs xs[i] fi :: Res.rest v b pre post xs i fr :: rs) := by
  have hown := h.get 0 rfl
  have hsl := own_Sl hown
  have hwr := hown.2
  obtain ⟨ao, cap, rfl, h1, h2, h3⟩ := hsl
  rcases h3 with ⟨rfl, _⟩ | ⟨b, off, f, hne, rfl, rfl, hb, h3⟩
  · simp at hi
  obtain ⟨cells, he, hr⟩ := Elems.of_at off h3
  have hcl := he.len
  have hxl : 0 < xs.length := by omega
  have hcpos : 0 < cells.length := by rw [hcl]; exact Nat.mul_pos hxl hp
  obtain ⟨c1, cs, c2, f1, fi, f2, e1, e2, e3, e4, e5, e6⟩ := he.split i hi
  obtain ⟨C, e, hC⟩ := hwr b (by simp)
  have hnd := h.nodup
  rw [List.flatMap_cons, List.nodup_append] at hnd
  have hnd1 : (b :: f).Nodup := hnd.1
  have hperm : (fi ++ (f1 ++ f2)).Perm f := by
    rw [e2, ← List.append_assoc]
    exact (List.perm_append_comm).append_right _
  have h0 : C.toList = C.toList.take off ++ cells ++ C.toList.drop (off + cells.length) := by
    rcases block_at hC hr with h0 | h0
    · rw [h0] at hcpos; simp at hcpos
    · exact h0
  have hp0 : (C.toList.take off).length = off := by
    have hl := congrArg List.length h0
    simp only [List.length_append, List.length_take, List.length_drop] at hl
    rw [List.length_take]
    omega
  generalize C.toList.take off = p0 at h0 hp0
  generalize C.toList.drop (off + cells.length) = q0 at h0
  have hC3 : W.heap[b]? = some (.cells ((p0 ++ c1) ++ cs ++ (c2 ++ q0)).toArray e (0, 0)) := by
    rw [hC]
    congr 2
    apply Array.ext'
    rw [h0, e1]
    simp
  have hlen : (p0 ++ c1).length = off + i * Shape.size α := by rw [List.length_append, hp0, e3]
  refine ⟨b, e, p0 ++ c1, cs, c2 ++ q0, fi, f1 ++ f2, ⟨off, xs.length, cap, rfl, hi, hlen⟩, e5, ?_⟩
  refine St.trade (rs1 := [Res.own (.slice (some ⟨b, off, none⟩) xs.length cap) xs (b :: f)]) (rs2 := [Res.bx b _ e, Res.cs cs xs[i] fi, Res.rest _ b _ _ xs i (f1 ++ f2)]) h ?_ ?_ ?_
  · show (b :: (fi ++ ((f1 ++ f2) ++ []))).Nodup
    rw [List.append_nil]
    exact ((hperm.cons b).nodup_iff).2 hnd1
  · intro c hc
    have hc : c ∈ b :: (fi ++ ((f1 ++ f2) ++ [])) := hc
    rw [List.append_nil] at hc
    have := (hperm.cons b).mem_iff.1 hc
    simpa [Res.own] using this
  · intro r hr'
    simp only [List.mem_cons, List.not_mem_nil, or_false] at hr'
    have hmem : ∀ c, c ∈ fi ++ (f1 ++ f2) → Wr W c := fun c hc => hwr c (List.mem_cons_of_mem _ (hperm.mem_iff.1 hc))
    rcases hr' with rfl | rfl | rfl
    · exact hC3
    · exact ⟨e5, fun c hc => hmem c (List.mem_append_left _ hc)⟩
    · exact ⟨⟨off, cap, f1, f2, p0, c1, c2, q0, rfl, h1, h2, hi, rfl, hp0, rfl, e4, e6, rfl⟩, fun c hc => hmem c (List.mem_append_right _ hc)⟩
/-- It is given back, as it is now. -/
theorem St.give {w0 W : World} {rs : List Res} {v : Value} {xs : List α} {b i : Nat} {e : TypeId} {pre cs post : List Value} {y : α} {fi fr : List Nat}
    (h : St w0 W (Res.bx b (pre ++ cs ++ post) e :: Res.cs cs y fi :: Res.rest v b pre post xs i fr :: rs)) : ∃ fp, St w0 W (Res.own v (xs.set i y) fp :: rs) := by
  have hb : W.heap[b]? = some (.cells (pre ++ cs ++ post).toArray e (0, 0)) := h.get 0 rfl
  obtain ⟨hc, hcw⟩ := h.get 1 rfl
  obtain ⟨⟨off, cap, f1, f2, p0, c1, c2, q0, rfl, h2, h3, hi, rfl, rfl, rfl, h8, h9, rfl⟩, hw⟩ := h.get 2 rfl
  have hnd := h.nodup
  have hfp : ((Res.bx b (p0 ++ c1 ++ cs ++ (c2 ++ q0)) e :: Res.cs cs y fi :: Res.rest (.slice (some ⟨b, p0.length, none⟩) xs.length cap) b (p0 ++ c1) (c2 ++ q0) xs i (f1 ++ f2) :: rs).flatMap Res.fp) = (b :: (fi ++ (f1 ++ f2))) ++ rs.flatMap Res.fp := by
    simp [List.flatMap_cons, Res.bx, Res.cs, Res.rest]
  rw [hfp, List.nodup_append] at hnd
  have hperm : (f1 ++ fi ++ f2).Perm (fi ++ (f1 ++ f2)) := by
    rw [← List.append_assoc]
    exact (List.perm_append_comm).append_right _
  refine ⟨b :: (f1 ++ fi ++ f2), St.trade (rs1 := [Res.bx b (p0 ++ c1 ++ cs ++ (c2 ++ q0)) e, Res.cs cs y fi, Res.rest (.slice (some ⟨b, p0.length, none⟩) xs.length cap) b (p0 ++ c1) (c2 ++ q0) xs i (f1 ++ f2)]) (rs2 := [Res.own _ _ _]) h ?_ ?_ ?_⟩
  · show (b :: (f1 ++ fi ++ f2) ++ []).Nodup
    rw [List.append_nil]
    exact ((hperm.cons b).nodup_iff).2 hnd.1
  · intro c hc'
    have hc' : c ∈ b :: (f1 ++ fi ++ f2) ++ [] := hc'
    rw [List.append_nil] at hc'
    have := (hperm.cons b).mem_iff.1 hc'
    simp only [List.flatMap_cons, List.flatMap_nil, List.append_nil, Res.bx, Res.cs, Res.rest]
    simpa using this
  · intro r hr
    rw [List.mem_singleton] at hr; subst hr
    have hbl : b < W.heap.size := (Array.getElem?_eq_some_iff.1 hb).1
    refine ⟨Sl.v ⟨some ⟨b, p0.length, none⟩, cap, by rw [List.length_set], by rw [List.length_set]; exact h2, h3, .inr ⟨b, p0.length, f1 ++ fi ++ f2, ?_, rfl, rfl, hbl, ?_⟩⟩, ?_⟩
    · intro h0
      have := congrArg List.length h0
      rw [List.length_set] at this
      simp at this
      rw [this] at hi
      simp at hi
    · refine (Elems.join hi h8 hc h9).at p0.length ?_
      intro j u hj
      have hr := range_of_heap hb (p0.length + j) u
      rw [Nat.zero_add] at hr
      refine hr ?_
      have : (p0 ++ c1 ++ cs ++ (c2 ++ q0)) = p0 ++ ((c1 ++ cs ++ c2) ++ q0) := by simp
      rw [this, List.getElem?_append_right (by omega), Nat.add_sub_cancel_left, List.getElem?_append_left ((List.getElem?_eq_some_iff.1 hj).1)]
      exact hj
    · intro c hc'
      rcases List.mem_cons.1 hc' with rfl | hc'
      · exact ⟨_, _, hb⟩
      · rcases List.mem_append.1 hc' with hc' | hc'
        · rcases List.mem_append.1 hc' with hc' | hc'
          · exact hw c (List.mem_append_left _ hc')
          · exact hcw c hc'
        · exact hw c (List.mem_append_right _ hc')
theorem St.lendx (hp : 0 < Shape.size α) {w0 W : World} {rs : List Res} {v : Value} {xs : List α} {fp : List Nat} (h : St w0 W (Res.own v xs fp :: rs)) {i : Nat} {x : α} (hi : xs[i]? = some x) : ∃ b e pre cs post fi fr, PA v (Shape.size α) i b pre.length ∧ Shape.C W cs x fi ∧
    St w0 W (Res.bx b (pre ++ cs ++ post) e :: Res.cs cs x fi :: Res.rest v b pre post xs i fr :: rs) := by
  obtain ⟨hl, rfl⟩ := List.getElem?_eq_some_iff.1 hi
  exact h.lend hp hl
end
theorem St.dropAt {w0 W : World} {rs : List Res} (h : St w0 W rs) (i : Nat) : St w0 W (rs.eraseIdx i) := h.sub (List.eraseIdx_sublist rs i)
theorem St.uncs {α : Type} [Shape α] [Agg α] {w0 W : World} {cs : List Value} {x : α} {fp : List Nat} {rs : List Res} (h : St w0 W (Res.cs cs x fp :: rs)) (ha : Agg.agg α = true) : St w0 W (Res.own (.agg cs.toArray) x fp :: rs) :=
  h.trade1 rfl (fun h => ⟨⟨cs, by simp [val, ha], h.1⟩, h.2⟩)
theorem St.uncs1 {α : Type} [Shape α] {w0 W : World} {cs : List Value} {x : List α} {fp : List Nat} {rs : List Res} (h : St w0 W (Res.cs cs x fp :: rs)) : ∃ v, cs = [v] ∧ St w0 W (Res.own v x fp :: rs) := by
  obtain ⟨⟨v, e, hs⟩, _⟩ := h.get 0 rfl
  subst e
  exact ⟨v, rfl, h.trade1 rfl (fun h => ⟨by obtain ⟨u, e, hs⟩ := h.1; cases e; exact hs.v, h.2⟩)⟩

/-! ### A box within a block: cells ahead of it and behind it. -/
theorem splice_nil : ∀ (C : List Value) (o : Nat), splice C o [] = C
  | [], 0 => rfl
  | [], _ + 1 => rfl
  | c :: C, 0 => rfl
  | c :: C, o + 1 => by show c :: splice C o [] = c :: C; rw [splice_nil C o]
theorem splice_left : ∀ (cs post vs : List Value) (j : Nat), j + vs.length ≤ cs.length → splice (cs ++ post) j vs = splice cs j vs ++ post
  | cs, post, [], j, h => by rw [splice_nil, splice_nil]
  | [], post, v :: vs, j, h => by simp at h
  | c :: cs, post, v :: vs, 0, h => by
    show v :: splice (cs ++ post) 0 vs = v :: (splice cs 0 vs ++ post)
    rw [splice_left cs post vs 0 (by simpa using h)]
  | c :: cs, post, v :: vs, j + 1, h => by
    show c :: splice (cs ++ post) j (v :: vs) = c :: (splice cs j (v :: vs) ++ post)
    rw [splice_left cs post (v :: vs) j (by simp at h ⊢; omega)]
theorem splice_mid : ∀ (pre cs post vs : List Value) (j : Nat), j + vs.length ≤ cs.length → splice (pre ++ cs ++ post) (pre.length + j) vs = pre ++ splice cs j vs ++ post
  | [], cs, post, vs, j, h => by
    simp only [List.nil_append, List.length_nil, Nat.zero_add]
    exact splice_left cs post vs j h
  | p :: pre, cs, post, vs, j, h => by
    have e : (p :: pre).length + j = (pre.length + j) + 1 := by simp; omega
    rw [e]
    show p :: splice (pre ++ cs ++ post) (pre.length + j) vs = p :: (pre ++ splice cs j vs ++ post)
    rw [splice_mid pre cs post vs j h]
theorem splice_len : ∀ (C vs : List Value) (o : Nat), (splice C o vs).length = C.length
  | [], vs, o => by cases o <;> cases vs <;> rfl
  | c :: C, [], 0 => rfl
  | c :: C, v :: vs, 0 => by show (splice C 0 vs).length + 1 = _; rw [splice_len C vs 0]; rfl
  | c :: C, vs, o + 1 => by show (splice C o vs).length + 1 = _; rw [splice_len C vs o]; rfl
section
variable {P : Program} {n : Nat} {f : Nat → Value} {W w0 : World} {rs : List Res} {Q : Exit → Act → World → Prop} {K : Value → World → Prop}
  {d : Option Tmp} {ty : TypeId} {pos : String} {af : Array Go.Edge} {g : Option (Nat × Bool)}
theorem bp_range {b : Nat} {pre C post : List Value} {t : TypeId} (hB : (Res.bx b (pre ++ C ++ post) t).holds W) : W.rangeAt b pre.length C := by
  intro j v hj
  have hr := range_of_heap hB (pre.length + j) v
  rw [Nat.zero_add] at hr
  refine hr ?_
  rw [List.append_assoc, List.getElem?_append_right (by omega), Nat.add_sub_cancel_left, List.getElem?_append_left ((List.getElem?_eq_some_iff.1 hj).1)]
  exact hj
theorem stp_load_bp {t t' : TypeId} {α : Type} [Shape α] [Agg α] {x : Operand} {b o i : Nat} {pre C post : List Value} {v : Value} (hT : TyOk P t α) (ha : Agg.agg α = false) (hx : ev n f x = .pointer (some ⟨b, o, none⟩)) (hB : (Res.bx b (pre ++ C ++ post) t').holds W) (ho : o = pre.length + i) (hv : C[i]? = some v) (k : K v W) :
    Stp P n ⟨d, .load t x, ty, pos, af, g⟩ f W Q K :=
  stp_load_rg hT ha hx (bp_range hB) (Below.refl _ _) ho hv k
theorem stp_load_bps {t t' : TypeId} {α : Type} [Shape α] [Agg α] {x : Operand} {b o i : Nat} {pre C post cs : List Value} (hT : TyOk P t α) (ha : Agg.agg α = true) (hx : ev n f x = .pointer (some ⟨b, o, none⟩)) (hB : (Res.bx b (pre ++ C ++ post) t').holds W) (ho : o = pre.length + i) (hv : (C.drop i).take (Shape.size α) = cs) (hl : cs.length = Shape.size α) (k : K (.agg cs.toArray) W) :
    Stp P n ⟨d, .load t x, ty, pos, af, g⟩ f W Q K :=
  stp_load_rgs hT ha hx (bp_range hB) (Below.refl _ _) ho hv hl k
theorem stp_load_bpa {t t' : TypeId} {α : Type} [Shape α] [Agg α] {x : Operand} {b o : Nat} {pre C post : List Value} (hT : TyOk P t α) (ha : Agg.agg α = true) (hx : ev n f x = .pointer (some ⟨b, o, none⟩)) (hB : (Res.bx b (pre ++ C ++ post) t').holds W) (ho : o = pre.length) (hl : C.length = Shape.size α) (k : K (.agg C.toArray) W) :
    Stp P n ⟨d, .load t x, ty, pos, af, g⟩ f W Q K :=
  stp_load_bps (i := 0) hT ha hx hB ho (by rw [List.drop_zero, List.take_of_length_le (by omega)]) hl k
theorem stp_store_bps {t t' : TypeId} {x y : Operand} {b o i : Nat} {pre cs C C' post : List Value} (hi : (P.info? t).map (·.size) = some cs.length) (hx : ev n f x = .pointer (some ⟨b, o, none⟩)) (hy : ev n f y = .agg cs.toArray) (h1 : ∀ v ∈ cs, v.oneCell' = true)
    (hst : St w0 W (Res.bx b (pre ++ C ++ post) t' :: rs)) (ho : o = pre.length + i) (hle : i + cs.length ≤ C.length) (hC : splice C i cs = C') (k : ∀ W', St w0 W' (Res.bx b (pre ++ C' ++ post) t' :: rs) → K undef W') :
    Stp P n ⟨d, .store t x y, ty, pos, af, g⟩ f W Q K :=
  stp_store_agg hi hx hy h1 hst (by subst ho; simp; omega) (by subst ho; rw [splice_mid _ _ _ _ _ hle, hC]) k
theorem stp_store_bpa {α : Type} [Shape α] [Agg α] {t t' : TypeId} {x y : Operand} {b o : Nat} {pre cs C post : List Value} {w : World} {z : α} {fp : List Nat} (hT : TyOk P t α) (hc : Shape.C w cs z fp) (hx : ev n f x = .pointer (some ⟨b, o, none⟩)) (hy : ev n f y = .agg cs.toArray)
    (hst : St w0 W (Res.bx b (pre ++ C ++ post) t' :: rs)) (ho : o = pre.length) (hl : C.length = Shape.size α) (k : ∀ W', St w0 W' (Res.bx b (pre ++ cs ++ post) t' :: rs) → K undef W') :
    Stp P n ⟨d, .store t x y, ty, pos, af, g⟩ f W Q K :=
  stp_store_bps (i := 0) (by rw [Shape.len hc]; exact hT.size) hx hy (Shape.one hc) hst ho (by rw [Shape.len hc, hl]; omega) (splice_all C cs (by rw [Shape.len hc, hl])) k
theorem stp_store_bp {t t' : TypeId} {x y : Operand} {b o i : Nat} {v : Value} {pre C C' post : List Value} (hi : (P.info? t).map (·.size) = some 1) (hx : ev n f x = .pointer (some ⟨b, o, none⟩)) (hy : ev n f y = v) (h1 : v.cells = #[v]) (h2 : v.oneCell' = true)
    (hst : St w0 W (Res.bx b (pre ++ C ++ post) t' :: rs)) (ho : o = pre.length + i) (hle : i + 1 ≤ C.length) (hC : splice C i [v] = C') (k : ∀ W', St w0 W' (Res.bx b (pre ++ C' ++ post) t' :: rs) → K undef W') :
    Stp P n ⟨d, .store t x y, ty, pos, af, g⟩ f W Q K :=
  stp_store_one hi hx hy h1 h2 hst (by subst ho; simp; omega) (by subst ho; rw [splice_mid _ _ _ _ _ (by simpa using hle), hC]) k
end
end Go.Proofs.YtchnllpegfbleaaDoor
