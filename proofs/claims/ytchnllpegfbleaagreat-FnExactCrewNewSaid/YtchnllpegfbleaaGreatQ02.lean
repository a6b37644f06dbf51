/-
  An element of an owned slice, lent: its block written out around it; what else the slice holds stays aside until it is given back.
  A region that draws its order, some operations of which write, one behind the other, a box that no other looks at.
  Literals of several elements; flat structs compared.
  Strings: lengths, comparisons, sums.
  The laws' measures.
  The laws' comparisons.
  What waits for what: ways along edges, and that a short one is there where there is one. Theory alone.
  The reference's search: what it has met, while it goes on, and in the end. Theory alone.
  Bytes: numbers turned to bytes, rows of bytes turned to strings.
  Bits of small numbers: or, and, shifts.
  Shifts (a try).
  Bits of numbers that are no Nat by their form.
  What is wrong with a plan. Theory alone.
  The tasks before and behind a task, in order. Theory alone.
  The place of the first element that a test takes. Theory alone.
  TasksIn, of the program and of the reference.
  Slices of ints: what is their own is marked and held, two are compared, one is copied; small numbers within bounds.
  AllOver, LeftIn, EnoughFor, of the program and of the reference.
  A store into an element of an owned slice; a made slice, all zeros.
-/
import Derived.Laws.StructEq
import Derived.Laws.Strings
import Derived.Lib.SlBytesRow
import Derived.Laws.BytesString
import Derived.Lib.QuoteBits
import Derived.Test.YtchnllpegfbleaaGreatQ01
namespace Go.Proofs.YtchnllpegfbleaaGreat
set_option linter.unusedSimpArgs false
set_option linter.unusedVariables false
set_option maxRecDepth 100000
open Go.RowKit

section
variable {α : Type} [Shape α]
theorem Elems.split {W : World} : ∀ {xs : List α} {cells : List Value} {fp : List Nat} (i : Nat) (hi : i < xs.length), Elems W cells xs fp → ∃ c1 cs c2 f1 fi f2, cells = c1 ++ cs ++ c2 ∧ fp = f1 ++ fi ++ f2 ∧ c1.length = i * Shape.size α ∧ Elems W c1 (xs.take i) f1 ∧ Shape.C W cs xs[i] fi ∧ Elems W c2 (xs.drop (i + 1)) f2
  | x :: xs, cells, fp, 0, _, ⟨cs, rest, f1, f2, h1, h2, h3, h4⟩ => ⟨[], cs, rest, [], f1, f2, by simpa using h1, by simpa using h4, by simp, ⟨rfl, rfl⟩, h2, by simpa using h3⟩
  | x :: xs, cells, fp, i + 1, hi, ⟨cs, rest, f1, f2, h1, h2, h3, h4⟩ => by
    obtain ⟨c1, cs', c2, g1, gi, g2, a1, a2, a3, a4, a5, a6⟩ := Elems.split i (by simpa using hi) h3
    subst h1 h4 a1 a2
    refine ⟨cs ++ c1, cs', c2, f1 ++ g1, gi, g2, by simp, by simp, ?_, ⟨cs, c1, f1, g1, rfl, h2, a4, rfl⟩, a5, by simpa using a6⟩
    rw [List.length_append, Shape.len h2, a3, Nat.add_mul]; omega
theorem Elems.join {W : World} {xs : List α} {i : Nat} (hi : i < xs.length) {c1 cs c2 : List Value} {f1 fi f2 : List Nat} {y : α} (h1 : Elems W c1 (xs.take i) f1) (h2 : Shape.C W cs y fi) (h3 : Elems W c2 (xs.drop (i + 1)) f2) : Elems W (c1 ++ cs ++ c2) (xs.set i y) (f1 ++ fi ++ f2) := by
  have := (h1.append (Elems.single h2)).append h3
  have e : xs.set i y = xs.take i ++ [y] ++ xs.drop (i + 1) := by
    rw [List.set_eq_take_append_cons_drop, if_pos hi, List.append_assoc]; rfl
  rw [e]; exact this
theorem block_at {W : World} {b off : Nat} {C : Array Value} {e : TypeId} {fr : Nat × Nat} {cells : List Value} (hC : W.heap[b]? = some (.cells C e fr)) (hr : W.rangeAt b off cells) : cells = [] ∨ C.toList = C.toList.take off ++ cells ++ C.toList.drop (off + cells.length) := by
  by_cases hn : cells = []
  · exact .inl hn
  refine .inr ?_
  have hcell : ∀ j v, cells[j]? = some v → C.toList[off + j]? = some v := by
    intro j v hj
    have := hr j v hj
    simp [World.cell?, hC] at this
    simpa using this
  have hlen : off + cells.length ≤ C.toList.length := by
    have hp : 0 < cells.length := List.length_pos_iff.2 hn
    have := hcell (cells.length - 1) _ (List.getElem?_eq_getElem (by omega))
    have := (List.getElem?_eq_some_iff.1 this).1
    omega
  apply List.ext_getElem?
  intro j
  by_cases h1 : j < off
  · rw [List.append_assoc, List.getElem?_append_left (by rw [List.length_take]; omega), List.getElem?_take, if_pos h1]
  · rw [List.append_assoc, List.getElem?_append_right (by rw [List.length_take]; omega), List.length_take, Nat.min_eq_left (by omega)]
    by_cases h2 : j - off < cells.length
    · rw [List.getElem?_append_left h2]
      have := hcell (j - off) _ (List.getElem?_eq_getElem h2)
      rw [show off + (j - off) = j by omega] at this
      rw [this, List.getElem?_eq_getElem h2]
    · rw [List.getElem?_append_right (by omega), List.getElem?_drop]
      congr 1; omega

def Res.rest (v : Value) (b : Nat) (pre post : List Value) (xs : List α) (i : Nat) (fr : List Nat) : Res where
  fp := fr
  holds := fun W => (∃ off cap f1 f2 p0 c1 c2 q0, v = .slice (some ⟨b, off, none⟩) xs.length cap ∧ xs.length ≤ cap ∧ cap ≤ 9223372036854775807 ∧ i < xs.length ∧ pre = p0 ++ c1 ∧ p0.length = off ∧ post = c2 ++ q0 ∧ Elems W c1 (xs.take i) f1 ∧ Elems W c2 (xs.drop (i + 1)) f2 ∧ fr = f1 ++ f2) ∧ ∀ c ∈ fr, Wr W c
  loc := by
    rintro W W' hs hb ⟨⟨off, cap, f1, f2, p0, c1, c2, q0, h1, h2, h3, h4, h5, h6, h7, h8, h9, rfl⟩, hw⟩
    exact ⟨⟨off, cap, f1, f2, p0, c1, c2, q0, h1, h2, h3, h4, h5, h6, h7, h8.loc hs (fun b hm => hb b (List.mem_append_left _ hm)), h9.loc hs (fun b hm => hb b (List.mem_append_right _ hm)), rfl⟩, fun c hc => (hw c hc).loc (hb c hc)⟩
  wr := fun h => h.2

theorem St.lend (hp : 0 < Shape.size α) {w0 W : World} {rs : List Res} {v : Value} {xs : List α} {fp : List Nat} (h : St w0 W (Res.own v xs fp :: rs)) {i : Nat} (hi : i < xs.length) : ∃ b e pre cs post fi fr, PA v (Shape.size α) i b pre.length ∧ Shape.C W cs xs[i] fi ∧
    St w0 W (Res.bx b (pre ++ cs ++ post) e :: Res.cs cs xs[i] fi :: Res.rest v b pre post xs i fr :: rs) := by
  have hown := h.get 0 rfl
  have hsl := bC hown
  have hwr := hown.2
  obtain ⟨ao, cap, rfl, h1, h2, h3⟩ := hsl
  rcases h3 with ⟨rfl, _⟩ | ⟨b, off, f, hne, rfl, rfl, hb, h3⟩
  · simp at hi
  obtain ⟨cells, he, hr⟩ := Elems.of_at off h3
  have hcl := he.len
  have hxl : 0 < xs.length := by omega
  have hcpos : 0 < cells.length := by rw [hcl]; exact Nat.mul_pos hxl hp
  obtain ⟨c1, cs, c2, f1, fi, f2, e1, e2, e3, e4, e5, e6⟩ := he.split i hi
  obtain ⟨C, e, hC⟩ := hwr b (by simp)
  have hnd := h.nodup
  rw [List.flatMap_cons, List.nodup_append] at hnd
  have hnd1 : (b :: f).Nodup := hnd.1
  have hperm : (fi ++ (f1 ++ f2)).Perm f := by
    rw [e2, ← List.append_assoc]
    exact (List.perm_append_comm).append_right _
  have h0 : C.toList = C.toList.take off ++ cells ++ C.toList.drop (off + cells.length) := by
    rcases block_at hC hr with h0 | h0
    · rw [h0] at hcpos; simp at hcpos
    · exact h0
  have hp0 : (C.toList.take off).length = off := by
    have hl := congrArg List.length h0
    simp only [List.length_append, List.length_take, List.length_drop] at hl
    rw [List.length_take]
    omega
  generalize C.toList.take off = p0 at h0 hp0
  generalize C.toList.drop (off + cells.length) = q0 at h0
  have hC3 : W.heap[b]? = some (.cells ((p0 ++ c1) ++ cs ++ (c2 ++ q0)).toArray e (0, 0)) := by
    rw [hC]
    congr 2
    apply Array.ext'
    rw [h0, e1]
    simp
  have hlen : (p0 ++ c1).length = off + i * Shape.size α := by rw [List.length_append, hp0, e3]
  refine ⟨b, e, p0 ++ c1, cs, c2 ++ q0, fi, f1 ++ f2, ⟨off, xs.length, cap, rfl, hi, hlen⟩, e5, ?_⟩
  refine St.trade (rs1 := [Res.own (.slice (some ⟨b, off, none⟩) xs.length cap) xs (b :: f)]) (rs2 := [Res.bx b _ e, Res.cs cs xs[i] fi, Res.rest _ b _ _ xs i (f1 ++ f2)]) h ?_ ?_ ?_
  · show (b :: (fi ++ ((f1 ++ f2) ++ []))).Nodup
    rw [List.append_nil]
    exact ((hperm.cons b).nodup_iff).2 hnd1
  · intro c hc
    have hc : c ∈ b :: (fi ++ ((f1 ++ f2) ++ [])) := hc
    rw [List.append_nil] at hc
    have := (hperm.cons b).mem_iff.1 hc
    simpa [Res.own] using this
  · intro r hr'
    simp only [List.mem_cons, List.not_mem_nil, or_false] at hr'
    have hmem : ∀ c, c ∈ fi ++ (f1 ++ f2) → Wr W c := fun c hc => hwr c (List.mem_cons_of_mem _ (hperm.mem_iff.1 hc))
    rcases hr' with rfl | rfl | rfl
    · exact hC3
    · exact ⟨e5, fun c hc => hmem c (List.mem_append_left _ hc)⟩
    · exact ⟨⟨off, cap, f1, f2, p0, c1, c2, q0, rfl, h1, h2, hi, rfl, hp0, rfl, e4, e6, rfl⟩, fun c hc => hmem c (List.mem_append_right _ hc)⟩
theorem St.give {w0 W : World} {rs : List Res} {v : Value} {xs : List α} {b i : Nat} {e : TypeId} {pre cs post : List Value} {y : α} {fi fr : List Nat}
    (h : St w0 W (Res.bx b (pre ++ cs ++ post) e :: Res.cs cs y fi :: Res.rest v b pre post xs i fr :: rs)) : ∃ fp, St w0 W (Res.own v (xs.set i y) fp :: rs) := by
  have hb : W.heap[b]? = some (.cells (pre ++ cs ++ post).toArray e (0, 0)) := h.get 0 rfl
  obtain ⟨hc, hcw⟩ := h.get 1 rfl
  obtain ⟨⟨off, cap, f1, f2, p0, c1, c2, q0, rfl, h2, h3, hi, rfl, rfl, rfl, h8, h9, rfl⟩, hw⟩ := h.get 2 rfl
  have hnd := h.nodup
  have hfp : ((Res.bx b (p0 ++ c1 ++ cs ++ (c2 ++ q0)) e :: Res.cs cs y fi :: Res.rest (.slice (some ⟨b, p0.length, none⟩) xs.length cap) b (p0 ++ c1) (c2 ++ q0) xs i (f1 ++ f2) :: rs).flatMap Res.fp) = (b :: (fi ++ (f1 ++ f2))) ++ rs.flatMap Res.fp := by
    simp [List.flatMap_cons, Res.bx, Res.cs, Res.rest]
  rw [hfp, List.nodup_append] at hnd
  have hperm : (f1 ++ fi ++ f2).Perm (fi ++ (f1 ++ f2)) := by
    rw [← List.append_assoc]
    exact (List.perm_append_comm).append_right _
  refine ⟨b :: (f1 ++ fi ++ f2), St.trade (rs1 := [Res.bx b (p0 ++ c1 ++ cs ++ (c2 ++ q0)) e, Res.cs cs y fi, Res.rest (.slice (some ⟨b, p0.length, none⟩) xs.length cap) b (p0 ++ c1) (c2 ++ q0) xs i (f1 ++ f2)]) (rs2 := [Res.own _ _ _]) h ?_ ?_ ?_⟩
  · show (b :: (f1 ++ fi ++ f2) ++ []).Nodup
    rw [List.append_nil]
    exact ((hperm.cons b).nodup_iff).2 hnd.1
  · intro c hc'
    have hc' : c ∈ b :: (f1 ++ fi ++ f2) ++ [] := hc'
    rw [List.append_nil] at hc'
    have := (hperm.cons b).mem_iff.1 hc'
    simp only [List.flatMap_cons, List.flatMap_nil, List.append_nil, Res.bx, Res.cs, Res.rest]
    simpa using this
  · intro r hr
    rw [List.mem_singleton] at hr; subst hr
    have hbl : b < W.heap.size := (Array.getElem?_eq_some_iff.1 hb).1
    refine ⟨Sl.v ⟨some ⟨b, p0.length, none⟩, cap, by rw [List.length_set], by rw [List.length_set]; exact h2, h3, .inr ⟨b, p0.length, f1 ++ fi ++ f2, ?_, rfl, rfl, hbl, ?_⟩⟩, ?_⟩
    · intro h0
      have := congrArg List.length h0
      rw [List.length_set] at this
      simp at this
      rw [this] at hi
      simp at hi
    · refine (Elems.join hi h8 hc h9).at p0.length ?_
      intro j u hj
      have hr := cD hb (p0.length + j) u
      rw [Nat.zero_add] at hr
      refine hr ?_
      have : (p0 ++ c1 ++ cs ++ (c2 ++ q0)) = p0 ++ ((c1 ++ cs ++ c2) ++ q0) := by simp
      rw [this, List.getElem?_append_right (by omega), Nat.add_sub_cancel_left, List.getElem?_append_left ((List.getElem?_eq_some_iff.1 hj).1)]
      exact hj
    · intro c hc'
      rcases List.mem_cons.1 hc' with rfl | hc'
      · exact ⟨_, _, hb⟩
      · rcases List.mem_append.1 hc' with hc' | hc'
        · rcases List.mem_append.1 hc' with hc' | hc'
          · exact hw c (List.mem_append_left _ hc')
          · exact hcw c hc'
        · exact hw c (List.mem_append_right _ hc')
theorem St.lendx (hp : 0 < Shape.size α) {w0 W : World} {rs : List Res} {v : Value} {xs : List α} {fp : List Nat} (h : St w0 W (Res.own v xs fp :: rs)) {i : Nat} {x : α} (hi : xs[i]? = some x) : ∃ b e pre cs post fi fr, PA v (Shape.size α) i b pre.length ∧ Shape.C W cs x fi ∧
    St w0 W (Res.bx b (pre ++ cs ++ post) e :: Res.cs cs x fi :: Res.rest v b pre post xs i fr :: rs) := by
  obtain ⟨hl, rfl⟩ := List.getElem?_eq_some_iff.1 hi
  exact h.lend hp hl
end
theorem St.uncs {α : Type} [Shape α] [Agg α] {w0 W : World} {cs : List Value} {x : α} {fp : List Nat} {rs : List Res} (h : St w0 W (Res.cs cs x fp :: rs)) (ha : Agg.agg α = true) : St w0 W (Res.own (.agg cs.toArray) x fp :: rs) :=
  h.trade1 rfl (fun h => ⟨⟨cs, by simp [val, ha], h.1⟩, h.2⟩)
theorem St.uncs1 {α : Type} [Shape α] {w0 W : World} {cs : List Value} {x : List α} {fp : List Nat} {rs : List Res} (h : St w0 W (Res.cs cs x fp :: rs)) : ∃ v, cs = [v] ∧ St w0 W (Res.own v x fp :: rs) := by
  obtain ⟨⟨v, e, hs⟩, _⟩ := h.get 0 rfl
  subst e
  exact ⟨v, rfl, h.trade1 rfl (fun h => ⟨by obtain ⟨u, e, hs⟩ := h.1; cases e; exact hs.v, h.2⟩)⟩

/-! ### A box within a block: cells ahead of it and behind it. -/
theorem nN : ∀ (C : List Value) (o : Nat), cX C o [] = C
  | [], 0 => rfl
  | [], _ + 1 => rfl
  | c :: C, 0 => rfl
  | c :: C, o + 1 => by show c :: cX C o [] = c :: C; rw [nN C o]
theorem mF : ∀ (cs post vs : List Value) (j : Nat), j + vs.length ≤ cs.length → cX (cs ++ post) j vs = cX cs j vs ++ post
  | cs, post, [], j, h => by rw [nN, nN]
  | [], post, v :: vs, j, h => by simp at h
  | c :: cs, post, v :: vs, 0, h => by
    show v :: cX (cs ++ post) 0 vs = v :: (cX cs 0 vs ++ post)
    rw [mF cs post vs 0 (by simpa using h)]
  | c :: cs, post, v :: vs, j + 1, h => by
    show c :: cX (cs ++ post) j (v :: vs) = c :: (cX cs j (v :: vs) ++ post)
    rw [mF cs post (v :: vs) j (by simp at h ⊢; omega)]
theorem iJ : ∀ (pre cs post vs : List Value) (j : Nat), j + vs.length ≤ cs.length → cX (pre ++ cs ++ post) (pre.length + j) vs = pre ++ cX cs j vs ++ post
  | [], cs, post, vs, j, h => by
    simp only [List.nil_append, List.length_nil, Nat.zero_add]
    exact mF cs post vs j h
  | p :: pre, cs, post, vs, j, h => by
    have e : (p :: pre).length + j = (pre.length + j) + 1 := by simp; omega
    rw [e]
    show p :: cX (pre ++ cs ++ post) (pre.length + j) vs = p :: (pre ++ cX cs j vs ++ post)
    rw [iJ pre cs post vs j h]
theorem gF : ∀ (C vs : List Value) (o : Nat), (cX C o vs).length = C.length
  | [], vs, o => by cases o <;> cases vs <;> rfl
  | c :: C, [], 0 => rfl
  | c :: C, v :: vs, 0 => by show (cX C 0 vs).length + 1 = _; rw [gF C vs 0]; rfl
  | c :: C, vs, o + 1 => by show (cX C o vs).length + 1 = _; rw [gF C vs o]; rfl
section
variable {P : Program} {n : Nat} {f : Nat → Value} {W w0 : World} {rs : List Res} {Q : Exit → Act → World → Prop} {K : Value → World → Prop}
  {d : Option Tmp} {ty : TypeId} {pos : String} {af : Array Go.Edge} {g : Option (Nat × Bool)}
theorem uS {b : Nat} {pre C post : List Value} {t : TypeId} (hB : (Res.bx b (pre ++ C ++ post) t).holds W) : W.rangeAt b pre.length C := by
  intro j v hj
  have hr := cD hB (pre.length + j) v
  rw [Nat.zero_add] at hr
  refine hr ?_
  rw [List.append_assoc, List.getElem?_append_right (by omega), Nat.add_sub_cancel_left, List.getElem?_append_left ((List.getElem?_eq_some_iff.1 hj).1)]
  exact hj
theorem fS {t t' : TypeId} {α : Type} [Shape α] [Agg α] {x : Operand} {b o i : Nat} {pre C post : List Value} {v : Value} (hT : TyOk P t α) (ha : Agg.agg α = false) (hx : ev n f x = .pointer (some ⟨b, o, none⟩)) (hB : (Res.bx b (pre ++ C ++ post) t').holds W) (ho : o = pre.length + i) (hv : C[i]? = some v) (k : K v W) :
    Stp P n ⟨d, .load t x, ty, pos, af, g⟩ f W Q K :=
  aK hT ha hx (uS hB) (Below.refl _ _) ho hv k
theorem stp_load_bps {t t' : TypeId} {α : Type} [Shape α] [Agg α] {x : Operand} {b o i : Nat} {pre C post cs : List Value} (hT : TyOk P t α) (ha : Agg.agg α = true) (hx : ev n f x = .pointer (some ⟨b, o, none⟩)) (hB : (Res.bx b (pre ++ C ++ post) t').holds W) (ho : o = pre.length + i) (hv : (C.drop i).take (Shape.size α) = cs) (hl : cs.length = Shape.size α) (k : K (.agg cs.toArray) W) :
    Stp P n ⟨d, .load t x, ty, pos, af, g⟩ f W Q K :=
  cS hT ha hx (uS hB) (Below.refl _ _) ho hv hl k
theorem stp_load_bpa {t t' : TypeId} {α : Type} [Shape α] [Agg α] {x : Operand} {b o : Nat} {pre C post : List Value} (hT : TyOk P t α) (ha : Agg.agg α = true) (hx : ev n f x = .pointer (some ⟨b, o, none⟩)) (hB : (Res.bx b (pre ++ C ++ post) t').holds W) (ho : o = pre.length) (hl : C.length = Shape.size α) (k : K (.agg C.toArray) W) :
    Stp P n ⟨d, .load t x, ty, pos, af, g⟩ f W Q K :=
  stp_load_bps (i := 0) hT ha hx hB ho (by rw [List.drop_zero, List.take_of_length_le (by omega)]) hl k
theorem jC {t t' : TypeId} {x y : Operand} {b o i : Nat} {pre cs C C' post : List Value} (hi : (P.info? t).map (·.size) = some cs.length) (hx : ev n f x = .pointer (some ⟨b, o, none⟩)) (hy : ev n f y = .agg cs.toArray) (h1 : ∀ v ∈ cs, v.oneCell' = true)
    (hst : St w0 W (Res.bx b (pre ++ C ++ post) t' :: rs)) (ho : o = pre.length + i) (hle : i + cs.length ≤ C.length) (hC : cX C i cs = C') (k : ∀ W', St w0 W' (Res.bx b (pre ++ C' ++ post) t' :: rs) → K undef W') :
    Stp P n ⟨d, .store t x y, ty, pos, af, g⟩ f W Q K :=
  bT hi hx hy h1 hst (by subst ho; simp; omega) (by subst ho; rw [iJ _ _ _ _ _ hle, hC]) k
theorem stp_store_bpa {α : Type} [Shape α] [Agg α] {t t' : TypeId} {x y : Operand} {b o : Nat} {pre cs C post : List Value} {w : World} {z : α} {fp : List Nat} (hT : TyOk P t α) (hc : Shape.C w cs z fp) (hx : ev n f x = .pointer (some ⟨b, o, none⟩)) (hy : ev n f y = .agg cs.toArray)
    (hst : St w0 W (Res.bx b (pre ++ C ++ post) t' :: rs)) (ho : o = pre.length) (hl : C.length = Shape.size α) (k : ∀ W', St w0 W' (Res.bx b (pre ++ cs ++ post) t' :: rs) → K undef W') :
    Stp P n ⟨d, .store t x y, ty, pos, af, g⟩ f W Q K :=
  jC (i := 0) (by rw [Shape.len hc]; exact hT.size) hx hy (Shape.one hc) hst ho (by rw [Shape.len hc, hl]; omega) (iK C cs (by rw [Shape.len hc, hl])) k
theorem bX {t t' : TypeId} {x y : Operand} {b o i : Nat} {v : Value} {pre C C' post : List Value} (hi : (P.info? t).map (·.size) = some 1) (hx : ev n f x = .pointer (some ⟨b, o, none⟩)) (hy : ev n f y = v) (h1 : v.cells = #[v]) (h2 : v.oneCell' = true)
    (hst : St w0 W (Res.bx b (pre ++ C ++ post) t' :: rs)) (ho : o = pre.length + i) (hle : i + 1 ≤ C.length) (hC : cX C i [v] = C') (k : ∀ W', St w0 W' (Res.bx b (pre ++ C' ++ post) t' :: rs) → K undef W') :
    Stp P n ⟨d, .store t x y, ty, pos, af, g⟩ f W Q K :=
  bK hi hx hy h1 h2 hst (by subst ho; simp; omega) (by subst ho; rw [iJ _ _ _ _ _ (by simpa using hle), hC]) k
end
end Go.Proofs.YtchnllpegfbleaaGreat
namespace Go.Proofs.YtchnllpegfbleaaGreat
set_option linter.unusedSimpArgs false
set_option linter.unusedVariables false
open Go.RowKit

section
variable {P : Program} {n : Nat} {w0 : World} {rs : List Res} {Q : Exit → Act → World → Prop}
def FixAll : List Pl → Prop
  | [] => True
  | q :: qs => (∀ v W W', q.p v W → q.p v W') ∧ FixAll qs
theorem FixAll.get : ∀ {F : List Pl}, FixAll F → ∀ i v W W', (F.getD i Pl.off).p v W → (F.getD i Pl.off).p v W'
  | [], _, _, _, _, _, h => h
  | q :: qs, hf, 0, v, W, W', h => hf.1 v W W' h
  | q :: qs, hf, i + 1, v, W, W', h => FixAll.get (F := qs) hf.2 i v W W' h
def wix : List Nat → Nat → Nat → Option Nat
  | [], _, _ => none
  | w :: ws, i, q => cond (Nat.beq i w) (some q) (wix ws i (q + 1))
theorem tU : ∀ {ws : List Nat} {i q k : Nat}, wix ws i q = some k → ∃ j : Nat, k = q + j ∧ ws[j]? = some i
  | w :: ws, i, q, k, h => by
    unfold wix at h
    cases hb : Nat.beq i w with
    | true =>
      rw [hb] at h
      simp only [cond_true, Option.some.injEq] at h
      exact ⟨0, h.symm, by rw [Nat.eq_of_beq_eq_true hb]; rfl⟩
    | false =>
      rw [hb] at h
      simp only [cond_false] at h
      obtain ⟨j, h1, h2⟩ := tU h
      exact ⟨j + 1, by omega, by simpa using h2⟩
theorem tV : ∀ {ws : List Nat} {i q : Nat}, wix ws i q = none → ∀ j : Nat, ws[j]? ≠ some i
  | [], i, q, _, j => by simp
  | w :: ws, i, q, h, j => by
    unfold wix at h
    cases hb : Nat.beq i w with
    | true => rw [hb] at h; simp at h
    | false =>
      rw [hb] at h
      simp only [cond_false] at h
      cases j with
      | zero => intro e; simp at e; subst e; rw [iG] at hb; cases hb
      | succ j => simpa using tV h j
def wsOk (l : List Oper) (ws : List Nat) : Bool :=
  (List.range ws.length).all (fun q => Nat.blt (ws.getD q 0) l.length && (List.range q).all (fun p => dep l (ws.getD q 0) (ws.getD p 0) && !Nat.beq (ws.getD q 0) (ws.getD p 0)))
structure WsOk (l : List Oper) (ws : List Nat) : Prop where
  lt : ∀ q i : Nat, ws[q]? = some i → i < l.length
  dep : ∀ q p i j : Nat, ws[q]? = some i → ws[p]? = some j → p < q → Go.Proofs.YtchnllpegfbleaaGreat.dep l i j = true
  ne : ∀ q p i : Nat, ws[q]? = some i → ws[p]? = some i → p = q
theorem WsOk.of {l : List Oper} {ws : List Nat} (h : wsOk l ws = true) : WsOk l ws := by
  unfold wsOk at h
  rw [List.all_eq_true] at h
  have key : ∀ q i : Nat, ws[q]? = some i → Nat.blt i l.length = true ∧ ∀ p j : Nat, p < q → ws[p]? = some j → Go.Proofs.YtchnllpegfbleaaGreat.dep l i j = true ∧ Nat.beq i j = false := by
    intro q i hq
    have hl := (List.getElem?_eq_some_iff.1 hq).1
    have h1 := h q (by simpa using hl)
    have e : ws.getD q 0 = i := by rw [List.getD_eq_getElem?_getD, hq]; rfl
    rw [e, Bool.and_eq_true, List.all_eq_true] at h1
    refine ⟨h1.1, fun p j hp hj => ?_⟩
    have h2 := h1.2 p (by simpa using hp)
    have e2 : ws.getD p 0 = j := by rw [List.getD_eq_getElem?_getD, hj]; rfl
    rw [e2, Bool.and_eq_true] at h2
    exact ⟨h2.1, by simpa using h2.2⟩
  refine ⟨fun q i hq => lN (key q i hq).1, fun q p i j hq hp hlt => ((key q i hq).2 p j hlt hp).1, ?_⟩
  intro q p i hq hp
  rcases Nat.lt_trichotomy p q with hlt | he | hgt
  · have := ((key q i hq).2 p i hlt hp).2
    rw [iG] at this; cases this
  · exact he
  · have := ((key p i hp).2 q i hgt hq).2
    rw [iG] at this; cases this
def wW (P : Program) (n : Nat) (w0 : World) (rs : List Res) (Q : Exit → Act → World → Prop) (ws : List Nat) (R : Nat → Res) (l : List Oper) (F : List Pl) (f0 : Nat → Value) (i : Nat) (o : Oper) (p : Pl) : Prop :=
  match wix ws i 0 with
  | some q => wF l F o = true ∧ ∀ f W, St w0 W (R q :: rs) → (∀ j d, dep l i j = true → eV l j = some d → (F.getD j Pl.off).p (f d) W) → (∀ t, mN l i t = true → f t = f0 t) → Stp P n o f W Q (fun v W' => St w0 W' (R (q + 1) :: rs) ∧ p.p v W')
  | none => ∀ f W r, St w0 W (r :: rs) → (∀ j d, dep l i j = true → eV l j = some d → (F.getD j Pl.off).p (f d) W) → (∀ t, mN l i t = true → f t = f0 t) →
      cond (wF l F o) (Stp P n o f W Q (fun v W' => St w0 W' (r :: rs) ∧ p.p v W')) (p.p undef W)
def AllW (P : Program) (n : Nat) (w0 : World) (rs : List Res) (Q : Exit → Act → World → Prop) (ws : List Nat) (R : Nat → Res) (l : List Oper) (F : List Pl) (f0 : Nat → Value) : Nat → List Oper → List Pl → Prop
  | _, [], [] => True
  | i, o :: os, p :: ps => wW P n w0 rs Q ws R l F f0 i o p ∧ AllW P n w0 rs Q ws R l F f0 (i + 1) os ps
  | _, _, _ => False
theorem AllW.get {ws : List Nat} {R : Nat → Res} {l : List Oper} {F : List Pl} {f0 : Nat → Value} : ∀ {os : List Oper} {ps : List Pl} {k : Nat}, AllW P n w0 rs Q ws R l F f0 k os ps → ∀ i o, os[i]? = some o → ∃ p, ps[i]? = some p ∧ wW P n w0 rs Q ws R l F f0 (k + i) o p
  | o :: os, p :: ps, k, h, 0, o', hi => by simp at hi; subst hi; exact ⟨p, rfl, h.1⟩
  | o :: os, p :: ps, k, h, i + 1, o', hi => by
    obtain ⟨q, hq, hs⟩ := AllW.get h.2 i o' (by simpa using hi)
    exact ⟨q, by simpa using hq, by rw [← Nat.add_assoc, Nat.add_right_comm]; exact hs⟩
  | [], _, _, _, i, o', hi => by simp at hi
  | o :: os, [], _, h, _, _, _ => h.elim
structure InvW (w0 : World) (rs : List Res) (ws : List Nat) (R : Nat → Res) (l : List Oper) (m : Nat) (F : List Pl) (f0 : Nat → Value) (L : Array Bool) (f : Nat → Value) (W : World) : Prop where
  size : L.size = l.length + m
  tail : ∀ i, l.length ≤ i → i < L.size → L[i]? = some false
  ex : ∃ c, c ≤ ws.length ∧ (∀ q i : Nat, ws[q]? = some i → (L[i]? = some true ↔ q < c)) ∧ St w0 W (R c :: rs)
  vals : ∀ i d, i < l.length → L[i]? = some true → eV l i = some d → (F.getD i Pl.off).p (f d) W
  keep : ∀ t, (∀ i, i < l.length → L[i]? = some true → eV l i ≠ some t) → f t = f0 t
  down : ∀ i j, i < l.length → L[i]? = some true → dep l i j = true → L[j]? = some true
end
end Go.Proofs.YtchnllpegfbleaaGreat
namespace Go.Proofs.YtchnllpegfbleaaGreat
set_option linter.unusedSimpArgs false
set_option linter.unusedVariables false
set_option maxRecDepth 100000
open Go.RowKit

def mZ (k : Nat) : List Value → List (Nat × Value)
  | [] => []
  | v :: vs => (k, v) :: mZ (k + 1) vs
def kS : List Value → Prop
  | [] => True
  | v :: vs => v.cells = #[v] ∧ kS vs
theorem lc_nil : kS [] := trivial
theorem lD {v : Value} {vs : List Value} (h : v.cells = #[v]) (hs : kS vs) : kS (v :: vs) := ⟨h, hs⟩
theorem uP : ∀ (vs : List Value) (k : Nat) (A : Array Value), k + vs.length = A.size → kS vs → Instr.fill (fun j => some (j * 1, 1)) A (mZ k vs) = some (A.extract 0 k ++ vs.toArray)
  | [], k, A, h, _ => by
    simp at h
    simp only [mZ, Instr.fill]
    congr 1
    simp [h]
  | v :: vs, k, A, h, ⟨h1, h2⟩ => by
    simp only [List.length_cons] at h
    have hs1 : v.cells.size = 1 := by rw [h1]; rfl
    have hc : ¬ (v.cells.size ≠ 1 ∨ k * 1 + v.cells.size > A.size) := by omega
    simp only [mZ, Instr.fill]
    simp only [Bool.or_eq_true, decide_eq_true_eq] at hc ⊢
    rw [if_neg (by simpa using hc)]
    have hf : (v.cells.zipIdx.foldl (fun acc (x : Value × Nat) => acc.setIfInBounds (k * 1 + x.2) x.1) A) = A.setIfInBounds k v := by
      rw [h1, Nat.mul_one]
      rfl
    rw [hf, uP vs (k + 1) _ (by simp; omega) h2]
    congr 1
    have e1 : (A.setIfInBounds k v).extract 0 (k + 1) = A.extract 0 k ++ #[v] := by
      apply Array.ext'
      have ho : k < A.toList.length := by rw [Array.length_toList]; omega
      simp only [Array.toList_extract, Array.toList_setIfInBounds, Array.toList_append, List.extract_eq_take_drop, List.drop_zero, Nat.sub_zero]
      rw [List.take_succ_eq_append_getElem (by rw [List.length_set]; exact ho), List.getElem_set_self]
      congr 1
      rw [List.take_set_of_le (Nat.le_refl _)]
    rw [e1, Array.append_assoc]
    congr 1
    simp
theorem run_buildSliceN {P : Program} {t e : TypeId} {α : Type} [Shape α] {bytes : Nat} (hT : ApOk P t e α bytes) (W : World) (hs : Shape.size α = 1) {vs : List Value} (hv : kS vs) (hl : Nat.ble vs.length 1000 = true := by rfl) :
    (Instr.buildSlice t vs.length (mZ 0 vs).toArray).run P W = .ok (.slice (some ⟨W.heap.size, 0, none⟩) vs.length vs.length) (W.alloc (.cells vs.toArray e)) := by
  obtain ⟨i, z, hi, hz, h1, h2, h3⟩ := hT.info
  rw [hs] at h1 h3
  have hl := Nat.le_of_ble_eq_true hl
  have hbig : ¬ (vs.length * i.size > 2 ^ 24) := by rw [h1]; omega
  by_cases hn : vs.length = 0
  · have : vs = [] := List.eq_nil_of_length_eq_zero hn
    subst this
    exact eQ hT W
  have hn0 : ¬ (vs.length * i.size = 0) := by rw [h1]; omega
  have hzs : ((Array.range (vs.length * i.size)).map (fun k => z.cells[k % z.cells.size]!)).size = vs.length := by simp [h1]
  have hf : Instr.fill (fun j => some (j * i.size, i.size)) ((Array.range (vs.length * i.size)).map (fun k => z.cells[k % z.cells.size]!)) (mZ 0 vs) = some vs.toArray := by
    rw [h1]
    rw [h1] at hzs
    rw [uP vs 0 _ (by rw [hzs]; simp) hv]
    simp
  simp only [Instr.buildSlice, Sem.run_bind, run_underlying hT.desc, Result.andThen_ok, sizeOf, typeInfo, run_program, hi, Sem.run_pure, hbig, if_false, hn0, zeroValue, hz, hf, newRow, run_newObj]
  rfl
theorem St.row_lit {α : Type} [Shape α] {w0 W : World} {rs : List Res} {b m : Nat} {cells : List Value} {e : TypeId} {ys : List α} (h : St w0 W (Res.bx b cells e :: rs)) (hl : ys.length = m) (hm : m ≤ maxLen) (hn : Elems W cells ys []) :
    St w0 W (Res.row e (.slice (some ⟨b, 0, none⟩) m m) ys [] :: rs) := by
  subst hl
  have hb : W.heap[b]? = some (.cells cells.toArray e (0, 0)) := h.get 0 rfl
  have hlen := hn.len
  refine h.turn rfl rfl rfl (Nat.le_refl _) (fun _ _ _ => rfl) ⟨⟨cells, ⟨by rw [hlen], .inr ⟨b, ys.length, cells.toArray, rfl, Nat.zero_le _, hb, Nat.le_refl _, hm, by simp [hlen], by rw [← hlen]; simp⟩⟩, hn⟩, by simp⟩ (by simp [Res.row, Value.ownBlock]) (fun c hc => .inl (by simpa [Res.row, Res.bx, Value.ownBlock] using hc))

theorem Elems.i0 {W : World} : Elems W [] ([] : List Int) [] := ⟨rfl, rfl⟩
theorem Elems.ic {W : World} {y : Int} {cs : List Value} {ys : List Int} (h : I64 y) (hs : Elems W cs ys []) : Elems W (I y :: cs) (y :: ys) [] := ⟨[I y], cs, [], [], rfl, ⟨rfl, rfl, h⟩, hs, rfl⟩
/-! ### Flat structs compared -/
def SEq (P : Program) (t : TypeId) (cs ds : List Value) (b : Bool) : Prop := ∀ W, (Op.equalIn 10000 t (.agg cs.toArray) (.agg ds.toArray)).run P W = .ok b W
section
variable {P : Program} {n : Nat} {f : Nat → Value} {W : World} {Q : Exit → Act → World → Prop} {K : Value → World → Prop} {d : Option Tmp} {ty : TypeId} {pos : String} {af : Array Go.Edge} {g : Option (Nat × Bool)} {x y : Operand} {t t' : TypeId}
theorem uB {cs ds : List Value} {b : Bool} (hs : SEq P t cs ds b) (hg : P.eqGuardType P.depth t = false) (hx : ev n f x = .agg cs.toArray) (hy : ev n f y = .agg ds.toArray) (k : K (.bool b) W) : Stp P n ⟨d, .binOp .eql t x y t', ty, pos, af, g⟩ f W Q K :=
  Stp.run (v := .bool b) (by simp only [execOp, hx, hy, Sem.run_bind, run_eqGuard_agg (hm := hg), Result.andThen_ok, run_eql_struct, hs W]; rfl) k
end
theorem vZ : Tryz.prog.eqGuardType Tryz.prog.depth 176 = false := by kernel_rfl
set_option maxHeartbeats 1000000 in
theorem vQ (x y : Edge) : SEq Tryz.prog 176 x.cells y.cells (eqB x y) := by
  intro W
  rw [run_equalIn_agg (d := 9999) (ht := Tryz.underlying176) (hp := by kernel_rfl)]
  cases x; cases y
  simp [Op.eqFields, Program.fieldsOf, Tryz.underlying176, go_sem, part, Edge.cells, eqB]
  (repeat' split) <;> simp_all
end Go.Proofs.YtchnllpegfbleaaGreat
namespace Go.Proofs.YtchnllpegfbleaaGreat
set_option linter.unusedSimpArgs false
set_option linter.unusedVariables false
open Go.RowKit
theorem toList_beq (a b : ByteArray) : (a.toList == b.toList) = decide (a = b) := by
  by_cases h : a = b
  · subst h; simp
  · have : ¬ a.toList = b.toList := fun e => h (by
      rw [ByteArray.toList_eq, ByteArray.toList_eq] at e
      obtain ⟨⟨x⟩⟩ := a
      obtain ⟨⟨y⟩⟩ := b
      simp at e
      subst e; rfl)
    simp [h, this]
section
variable {P : Program} {n : Nat} {f : Nat → Value} {W : World} {Q : Exit → Act → World → Prop} {K : Value → World → Prop} {d : Option Tmp} {ty : TypeId} {pos : String} {af : Array Go.Edge} {g : Option (Nat × Bool)} {x y : Operand} {t t' : TypeId} {a b : ByteArray}
theorem tY (hu : P.underlying t = some .string) (hx : ev n f x = .string a) (k : K (I (a.size : Int)) W) : Stp P n ⟨d, .call { callee := .builtin .len, args := #[x], argTypes := #[t] }, ty, pos, af, g⟩ f W Q K :=
  Stp.run (v := I (a.size : Int)) (by simp [execOp, hx, resolve, invoke, builtin, Sem.run_bind, run_len_string (h := hu), goInt]) k
theorem uA (hx : ev n f x = .string a) (hy : ev n f y = .string b) (k : K (.bool (decide (a = b))) W) : Stp P n ⟨d, .binOp .eql t x y t', ty, pos, af, g⟩ f W Q K :=
  Stp.run (v := .bool (decide (a = b))) (by simp [execOp, hx, hy, go_sem, toList_beq]) k
end
end Go.Proofs.YtchnllpegfbleaaGreat
namespace Go.Proofs.YtchnllpegfbleaaGreat
set_option linter.unusedSimpArgs false
set_option linter.unusedVariables false
set_option maxRecDepth 100000
open Go.RowKit

theorem mA {l : Int} {n : Nat} (h : szL l n < 0) (hl : 0 ≤ l) : l < n := by
  unfold szL at h; split at h <;> omega
theorem mB {l : Int} {n : Nat} (h : ¬ szL l n < 0) (hl : 0 ≤ l) : (n : Int) ≤ l ∧ szL l n = l - n := by
  unfold szL at *; split at h <;> simp_all <;> omega

set_option maxHeartbeats 2000000 in
theorem szEdgeS_n (w : World) {v : Value} {xs : List Edge} {fp : List Nat} (h : Sl w v xs fp) (l : Int) (hl : 0 ≤ l) (hl2 : l ≤ 1048576) :
    Calls Tryz.prog 218 #[v, I l] w fun e w' => e = .returned (I (szL l xs.length)) ∧ St w w' [] := by
  have hcap := h.len_le
  refine cF Tryz.func218 rfl Tryz.ntmps218 (by decide) (wp_seq (aA (sg (aD (v := I 0) rfl (aE (wp_seq (aA (sg (aB (v := I l) rfl (sg (aB (v := v) rfl (sg (aV mW rfl h (sg (fI rfl rfl (by (simp only [I64] at *; omega)) (sg (aD (v := I (l - (xs.length : Int))) rfl ?_)))))))))))))))))
  refine aE (wp_seq (wp_seq (aA (sg (aB (v := I (l - (xs.length : Int))) rfl (sg (aY rfl rfl (aE (aR rfl (fun h1 => ?_) (fun h1 => ?_))))))))))
  · have h1p := of_decide_eq_true h1
    refine wp_seq (aA (sg (aD (v := I (-1)) rfl (aE (wp_ret ?_))))); repeat first|refine aH ?_|refine aI ?_
    refine aW Tryz.results218 rfl ?_
    exact ⟨congrArg (fun z => Ending.returned (I z)) (lS (by omega)).symm, (St.start w).bare⟩
  · have h1p := of_decide_eq_false h1
    refine wp_skip (wp_seq (aA (sg (aB (v := I (l - (xs.length : Int))) rfl (sg (aD (v := I (l - (xs.length : Int))) rfl (aE (wp_ret ?_)))))))); repeat first|refine aH ?_|refine aI ?_
    refine aW Tryz.results218 rfl ?_
    exact ⟨congrArg (fun z => Ending.returned (I z)) (by rw [pW (by omega)]; try omega), (St.start w).bare⟩
set_option maxHeartbeats 2000000 in
theorem szPlan_n (w : World) {x : Plan} {cs : List Value} {fp : List Nat} (hc : Shape.C w cs x fp) (l : Int) (hl : 0 ≤ l) (hl2 : l ≤ 1048576) :
    Calls Tryz.prog 166 #[.agg cs.toArray, I l] w fun e w' => e = .returned (I (szL l x.wt)) ∧ St w w' [] := by
  have hwt : x.wt = x.edges.length := rfl
  refine cF Tryz.func166 rfl Tryz.ntmps166 (by decide) (wp_seq (aA (sg (aQ (cs := cs) rfl (St.start w) ?_)))); intro b1 W2 hb3 st4
  refine sg (aD (v := I 0) rfl (aE (wp_seq (aA (sg (aC rO rfl ?_))))))
  have hk6 := hc
  obtain ⟨v6_0, g6_0, rfl, hok6, h6_0, rfl⟩ := hk6
  refine sg (aF sO rfl rfl (st4.get 0 rfl) (i := 4) rfl rfl (sg (aB (v := I l) rfl (sg (aZ Tryz.func218 rfl rfl rfl ((szEdgeS_n W2 (h6_0.below st4.below) l (by omega) (by omega)).mono ?_)))))); rintro _ W7 ⟨rfl, hk8⟩; refine ⟨_, rfl, ?_⟩
  have st9 := St.call st4 hk8
  refine sg (aD (v := I (szL l x.edges.length)) rfl (aE (wp_seq (wp_seq (aA (sg (aB (v := I (szL l x.edges.length)) rfl (sg (aY rfl rfl (aE (aR rfl (fun h11 => ?_) (fun h11 => ?_))))))))))))
  · have h11p := of_decide_eq_true h11
    have h11q := mA h11p (by omega)
    refine wp_seq (aA (sg (aD (v := I (-1)) rfl (aE (wp_ret ?_))))); repeat first|refine aH ?_|refine aI ?_
    refine aW Tryz.results166 rfl ?_
    exact ⟨congrArg (fun z => Ending.returned (I z)) (lS (by omega)).symm, st9.bare⟩
  · have h11p := of_decide_eq_false h11
    have h11q := mB h11p (by omega)
    refine wp_skip (wp_seq (aA (sg (aB (v := I (szL l x.edges.length)) rfl (sg (aD (v := I (szL l x.edges.length)) rfl (aE (wp_ret ?_)))))))); repeat first|refine aH ?_|refine aI ?_
    refine aW Tryz.results166 rfl ?_
    exact ⟨congrArg (fun z => Ending.returned (I z)) (by rw [pW (n := x.wt) (by omega)]; try omega), st9.bare⟩
set_option maxHeartbeats 2000000 in
theorem szEntryS_n (w : World) {v : Value} {xs : List Entry} {fp : List Nat} (h : Sl w v xs fp) (l : Int) (hl : 0 ≤ l) (hl2 : l ≤ 1048576) :
    Calls Tryz.prog 102 #[v, I l] w fun e w' => e = .returned (I (szL l xs.length)) ∧ St w w' [] := by
  have hcap := h.len_le
  refine cF Tryz.func102 rfl Tryz.ntmps102 (by decide) (wp_seq (aA (sg (aD (v := I 0) rfl (aE (wp_seq (aA (sg (aB (v := I l) rfl (sg (aB (v := v) rfl (sg (aV lA rfl h (sg (fI rfl rfl (by (simp only [I64] at *; omega)) (sg (aD (v := I (l - (xs.length : Int))) rfl ?_)))))))))))))))))
  refine aE (wp_seq (wp_seq (aA (sg (aB (v := I (l - (xs.length : Int))) rfl (sg (aY rfl rfl (aE (aR rfl (fun h1 => ?_) (fun h1 => ?_))))))))))
  · have h1p := of_decide_eq_true h1
    refine wp_seq (aA (sg (aD (v := I (-1)) rfl (aE (wp_ret ?_))))); repeat first|refine aH ?_|refine aI ?_
    refine aW Tryz.results102 rfl ?_
    exact ⟨congrArg (fun z => Ending.returned (I z)) (lS (by omega)).symm, (St.start w).bare⟩
  · have h1p := of_decide_eq_false h1
    refine wp_skip (wp_seq (aA (sg (aB (v := I (l - (xs.length : Int))) rfl (sg (aD (v := I (l - (xs.length : Int))) rfl (aE (wp_ret ?_)))))))); repeat first|refine aH ?_|refine aI ?_
    refine aW Tryz.results102 rfl ?_
    exact ⟨congrArg (fun z => Ending.returned (I z)) (by rw [pW (by omega)]; try omega), (St.start w).bare⟩
set_option maxHeartbeats 2000000 in
theorem szTaskS_n (w : World) {v : Value} {xs : List Task} {fp : List Nat} (h : Sl w v xs fp) (l : Int) (hl : 0 ≤ l) (hl2 : l ≤ 1048576) :
    Calls Tryz.prog 167 #[v, I l] w fun e w' => e = .returned (I (szL l xs.length)) ∧ St w w' [] := by
  have hcap := h.len_le
  refine cF Tryz.func167 rfl Tryz.ntmps167 (by decide) (wp_seq (aA (sg (aD (v := I 0) rfl (aE (wp_seq (aA (sg (aB (v := I l) rfl (sg (aB (v := v) rfl (sg (aV mV rfl h (sg (fI rfl rfl (by (simp only [I64] at *; omega)) (sg (aD (v := I (l - (xs.length : Int))) rfl ?_)))))))))))))))))
  refine aE (wp_seq (wp_seq (aA (sg (aB (v := I (l - (xs.length : Int))) rfl (sg (aY rfl rfl (aE (aR rfl (fun h1 => ?_) (fun h1 => ?_))))))))))
  · have h1p := of_decide_eq_true h1
    refine wp_seq (aA (sg (aD (v := I (-1)) rfl (aE (wp_ret ?_))))); repeat first|refine aH ?_|refine aI ?_
    refine aW Tryz.results167 rfl ?_
    exact ⟨congrArg (fun z => Ending.returned (I z)) (lS (by omega)).symm, (St.start w).bare⟩
  · have h1p := of_decide_eq_false h1
    refine wp_skip (wp_seq (aA (sg (aB (v := I (l - (xs.length : Int))) rfl (sg (aD (v := I (l - (xs.length : Int))) rfl (aE (wp_ret ?_)))))))); repeat first|refine aH ?_|refine aI ?_
    refine aW Tryz.results167 rfl ?_
    exact ⟨congrArg (fun z => Ending.returned (I z)) (by rw [pW (by omega)]; try omega), (St.start w).bare⟩
set_option maxHeartbeats 2000000 in
theorem szRun_n (w : World) {x : Run} {cs : List Value} {fp : List Nat} (hc : Shape.C w cs x fp) (l : Int) (hl : 0 ≤ l) (hl2 : l ≤ 1048576) :
    Calls Tryz.prog 103 #[.agg cs.toArray, I l] w fun e w' => e = .returned (I (szL l x.wt)) ∧ St w w' [] := by
  have hwt : x.wt = x.plan.wt + x.tasks.length := rfl
  refine cF Tryz.func103 rfl Tryz.ntmps103 (by decide) (wp_seq (aA (sg (aQ (cs := cs) rfl (St.start w) ?_)))); intro b1 W2 hb3 st4
  refine sg (aD (v := I 0) rfl (aE (wp_seq (aA (sg (aC tB rfl ?_))))))
  have hk6 := hc
  obtain ⟨v6_0, v6_1, g6_0, g6_1, rfl, hok6, h6_0, h6_1, rfl⟩ := hk6
  refine sg (aU (cs := [I x.plan.prio, I x.plan.most, I x.plan.wait, I x.plan.tasks, v6_0]) uN rfl rfl (st4.get 0 rfl) rfl rfl (sg (aB (v := I l) rfl (sg (aZ Tryz.func166 rfl rfl rfl ((szPlan_n W2 (show Shape.C _ [I x.plan.prio, I x.plan.most, I x.plan.wait, I x.plan.tasks, v6_0] x.plan _ from ⟨_, _, rfl, (by first | exact True.intro | (simp only [Edge.ok, Plan.ok, Entry.ok, Task.ok, Run.ok, Yard.ok, Reply.ok, Deed.ok, Note.ok, Wait.ok, File.ok, Disk.ok, Engine.ok, WorldD.ok, ActD.ok, Hand.ok, Span.ok, Crew.ok, View.ok, I64] at *; omega)), (h6_0.below st4.below), rfl⟩) l (by omega) (by omega)).mono ?_)))))); rintro _ W7 ⟨rfl, hk8⟩; refine ⟨_, rfl, ?_⟩
  have st9 := St.call st4 hk8
  refine sg (aD (v := I (szL l x.plan.wt)) rfl (aE (wp_seq (wp_seq (aA (sg (aB (v := I (szL l x.plan.wt)) rfl (sg (aY rfl rfl (aE (aR rfl (fun h11 => ?_) (fun h11 => ?_))))))))))))
  · have h11p := of_decide_eq_true h11
    have h11q := mA h11p (by omega)
    refine wp_seq (aA (sg (aD (v := I (-1)) rfl (aE (wp_ret ?_))))); repeat first|refine aH ?_|refine aI ?_
    refine aW Tryz.results103 rfl ?_
    exact ⟨congrArg (fun z => Ending.returned (I z)) (lS (by omega)).symm, st9.bare⟩
  · have h11p := of_decide_eq_false h11
    have h11q := mB h11p (by omega)
    refine wp_skip (wp_seq (aA (sg (aC tA rfl (sg (aF sN rfl rfl (st9.get 0 rfl) (i := 7) rfl rfl (sg (aB (v := I (szL l x.plan.wt)) rfl (sg (aZ Tryz.func167 rfl rfl rfl ((szTaskS_n W7 (h6_1.below st9.below) (szL l x.plan.wt) (by omega) (by omega)).mono ?_))))))))))); rintro _ W12 ⟨rfl, hk13⟩; refine ⟨_, rfl, ?_⟩
    have st14 := St.call st9 hk13
    refine sg (aD (v := I (szL (szL l x.plan.wt) x.tasks.length)) rfl (aE (wp_seq (wp_seq (aA (sg (aB (v := I (szL (szL l x.plan.wt) x.tasks.length)) rfl (sg (aY rfl rfl (aE (aR rfl (fun h16 => ?_) (fun h16 => ?_))))))))))))
    · have h16p := of_decide_eq_true h16
      have h16q := mA h16p (by omega)
      refine wp_seq (aA (sg (aD (v := I (-1)) rfl (aE (wp_ret ?_))))); repeat first|refine aH ?_|refine aI ?_
      refine aW Tryz.results103 rfl ?_
      exact ⟨congrArg (fun z => Ending.returned (I z)) (lS (by omega)).symm, st14.bare⟩
    · have h16p := of_decide_eq_false h16
      have h16q := mB h16p (by omega)
      refine wp_skip (wp_seq (aA (sg (aB (v := I (szL (szL l x.plan.wt) x.tasks.length)) rfl (sg (aD (v := I (szL (szL l x.plan.wt) x.tasks.length)) rfl (aE (wp_ret ?_)))))))); repeat first|refine aH ?_|refine aI ?_
      refine aW Tryz.results103 rfl ?_
      exact ⟨congrArg (fun z => Ending.returned (I z)) (by rw [pW (n := x.wt) (by omega)]; try omega), st14.bare⟩
set_option maxHeartbeats 2000000 in
theorem szRunS_n (w : World) {v : Value} {xs : List Run} {fp : List Nat} (h : Sl w v xs fp) (l : Int) (hl : 0 ≤ l) (hl2 : l ≤ 1048576) :
    Calls Tryz.prog 50 #[v, I l] w fun e w' => e = .returned (I (szL l (wtL (fun y : Run => y.wt) xs))) ∧ St w w' [] := by
  have hcap := h.len_le
  have hwt : wtL (fun y : Run => y.wt) xs = xs.length + (xs.map (fun y : Run => y.wt)).sum := rfl
  refine cF Tryz.func50 rfl Tryz.ntmps50 (by decide) (wp_seq (aA (sg (aD (v := I 0) rfl (aE (wp_seq (aA (sg (aB (v := I l) rfl (sg (aB (v := v) rfl (sg (aV kM rfl h (sg (fI rfl rfl (by (simp only [I64] at *; omega)) (sg (aD (v := I (l - (xs.length : Int))) rfl ?_)))))))))))))))))
  refine aE (wp_seq (wp_seq (aA (sg (aB (v := I (l - (xs.length : Int))) rfl (sg (aY rfl rfl (aE (aR rfl (fun h1 => ?_) (fun h1 => ?_))))))))))
  · have h1p := of_decide_eq_true h1
    refine wp_seq (aA (sg (aD (v := I (-1)) rfl (aE (wp_ret ?_))))); repeat first|refine aH ?_|refine aI ?_
    refine aW Tryz.results50 rfl ?_
    exact ⟨congrArg (fun z => Ending.returned (I z)) (lS (by omega)).symm, (St.start w).bare⟩
  · have h1p := of_decide_eq_false h1
    refine wp_skip (wp_seq (wp_seq (aA (sg (aD (v := I 0) rfl (aE (wp_block (bH (fun (m : Nat) (f : Nat → Value) (W : World) => ∃ (k : Nat), k ≤ xs.length ∧ 0 ≤ l - (xs.length : Int) - (((xs.take k).map (fun y : Run => y.wt)).sum : Nat) ∧ m = xs.length - k ∧ f 0 = v ∧ f 1 = I (l - (xs.length : Int) - (((xs.take k).map (fun y : Run => y.wt)).sum : Nat)) ∧ f 5 = I (k : Int) ∧ St w W ([])) (xs.length - 0) ?_ ?_))))))))
    · exact ⟨0, Nat.zero_le _, (by simp; omega), rfl, rfl, (Eq.trans (show _ = I (l - (xs.length : Int)) from rfl) (show I (l - (xs.length : Int)) = I (l - (xs.length : Int) - (((xs.take 0).map (fun y : Run => y.wt)).sum : Nat)) from congrArg I (by simp))), rfl, (St.start w)⟩
    intro m2 f3 W4 hJ5
    obtain ⟨k, hcd7_0, hcd7_1, rfl, hs7_0, hs7_1, hs7_5, st6⟩ := hJ5
    refine wp_seq (wp_seq (aA (sg (aB (v := I (k : Int)) hs7_5 (sg (aB (v := v) hs7_0 (sg (aV kM rfl h (sg (aY rfl rfl (aE (aR rfl (fun h8 => ?_) (fun h8 => ?_)))))))))))))
    · have h8p := of_decide_eq_true h8
      refine wp_skip (wp_seq (wp_block (wp_seq (aA (sg (aB (v := v) hs7_0 (sg (aB (v := I (k : Int)) hs7_5 ?_))))))))
      have hi51fab : k < xs.length := (by omega)
      have hq_ := idx h (i := k) hi51fab
      obtain ⟨b9, o9, cs9, f9, hp9, hr9, hc9, hm9⟩ := hq_
      refine sg (aG kM rfl hp9 rfl rfl (sg (bY vU rfl rfl hr9 st6.below (Shape.len hc9) (sg (aB (v := I (l - (xs.length : Int) - (((xs.take k).map (fun y : Run => y.wt)).sum : Nat))) hs7_1 ?_)))))
      have hstep : ((xs.take (k + 1)).map (fun y : Run => y.wt)).sum = ((xs.take k).map (fun y : Run => y.wt)).sum + xs[k].wt := nX (fun y : Run => y.wt) xs k (by omega)
      have hle := iL (fun y : Run => y.wt) xs (k + 1)
      refine sg (aZ Tryz.func103 rfl rfl rfl ((szRun_n W4 (cA hc9 st6.below) (l - (xs.length : Int) - (((xs.take k).map (fun y : Run => y.wt)).sum : Nat)) (by omega) (by omega)).mono ?_)); rintro _ W10 ⟨rfl, hk11⟩; refine ⟨_, rfl, ?_⟩
      have st12 := St.call st6 hk11
      refine sg (aD (v := I (szL (l - (xs.length : Int) - (((xs.take k).map (fun y : Run => y.wt)).sum : Nat)) ((xs[k]'hi51fab)).wt)) rfl (aE (wp_seq (aA (sg (aB (v := I (szL (l - (xs.length : Int) - (((xs.take k).map (fun y : Run => y.wt)).sum : Nat)) ((xs[k]'hi51fab)).wt)) rfl (sg (aY rfl rfl (aE (aR rfl (fun h14 => ?_) (fun h14 => ?_)))))))))))
      · have h14p := of_decide_eq_true h14
        have h14q := mA h14p (by omega)
        refine wp_seq (aA (sg (aD (v := I (-1)) rfl (aE (wp_ret ?_))))); repeat first|refine aH ?_|refine aI ?_
        refine aW Tryz.results50 rfl ?_
        exact ⟨congrArg (fun z => Ending.returned (I z)) (lS (by omega)).symm, st12.bare⟩
      · have h14p := of_decide_eq_false h14
        have h14q := mB h14p (by omega)
        refine wp_skip (aA (sg (aB (v := I (k : Int)) hs7_5 (sg (aP rfl rfl (by (simp only [I64] at *; omega)) (sg (aD (v := I ((k : Int) + 1)) rfl (aE ?_))))))))
        exact ⟨_, xs.length - (k + 1), (by omega), rfl, k + 1, (by omega), (by omega), rfl, hs7_0, (Eq.trans (show _ = I (szL (l - (xs.length : Int) - (((xs.take k).map (fun y : Run => y.wt)).sum : Nat)) ((xs[k]'hi51fab)).wt) from rfl) (show I (szL (l - (xs.length : Int) - (((xs.take k).map (fun y : Run => y.wt)).sum : Nat)) ((xs[k]'hi51fab)).wt) = I (l - (xs.length : Int) - (((xs.take (k + 1)).map (fun y : Run => y.wt)).sum : Nat)) from congrArg I (by omega))), rfl, st12⟩
    · have h8p := of_decide_eq_false h8
      refine wp_exit (wp_seq (aA (sg (aB (v := I (l - (xs.length : Int) - (((xs.take k).map (fun y : Run => y.wt)).sum : Nat))) hs7_1 (sg (aD (v := I (l - (xs.length : Int) - (((xs.take k).map (fun y : Run => y.wt)).sum : Nat))) rfl (aE (wp_ret ?_)))))))); repeat first|refine aH ?_|refine aI ?_
      refine aW Tryz.results50 rfl ?_
      obtain rfl : k = xs.length := by omega
      rw [List.take_length] at *
      exact ⟨congrArg (fun z => Ending.returned (I z)) (by rw [pW (by omega)]; try omega), st6.bare⟩
set_option maxHeartbeats 2000000 in
theorem szEntrySS_n (w : World) {v : Value} {xs : List (List Entry)} {fp : List Nat} (h : Sl w v xs fp) (l : Int) (hl : 0 ≤ l) (hl2 : l ≤ 1048576) :
    Calls Tryz.prog 49 #[v, I l] w fun e w' => e = .returned (I (szL l (wtL (fun y : List Entry => y.length) xs))) ∧ St w w' [] := by
  have hcap := h.len_le
  have hwt : wtL (fun y : List Entry => y.length) xs = xs.length + (xs.map (fun y : List Entry => y.length)).sum := rfl
  refine cF Tryz.func49 rfl Tryz.ntmps49 (by decide) (wp_seq (aA (sg (aD (v := I 0) rfl (aE (wp_seq (aA (sg (aB (v := I l) rfl (sg (aB (v := v) rfl (sg (aV iN rfl h (sg (fI rfl rfl (by (simp only [I64] at *; omega)) (sg (aD (v := I (l - (xs.length : Int))) rfl ?_)))))))))))))))))
  refine aE (wp_seq (wp_seq (aA (sg (aB (v := I (l - (xs.length : Int))) rfl (sg (aY rfl rfl (aE (aR rfl (fun h1 => ?_) (fun h1 => ?_))))))))))
  · have h1p := of_decide_eq_true h1
    refine wp_seq (aA (sg (aD (v := I (-1)) rfl (aE (wp_ret ?_))))); repeat first|refine aH ?_|refine aI ?_
    refine aW Tryz.results49 rfl ?_
    exact ⟨congrArg (fun z => Ending.returned (I z)) (lS (by omega)).symm, (St.start w).bare⟩
  · have h1p := of_decide_eq_false h1
    refine wp_skip (wp_seq (wp_seq (aA (sg (aD (v := I 0) rfl (aE (wp_block (bH (fun (m : Nat) (f : Nat → Value) (W : World) => ∃ (k : Nat), k ≤ xs.length ∧ 0 ≤ l - (xs.length : Int) - (((xs.take k).map (fun y : List Entry => y.length)).sum : Nat) ∧ m = xs.length - k ∧ f 0 = v ∧ f 1 = I (l - (xs.length : Int) - (((xs.take k).map (fun y : List Entry => y.length)).sum : Nat)) ∧ f 5 = I (k : Int) ∧ St w W ([])) (xs.length - 0) ?_ ?_))))))))
    · exact ⟨0, Nat.zero_le _, (by simp; omega), rfl, rfl, (Eq.trans (show _ = I (l - (xs.length : Int)) from rfl) (show I (l - (xs.length : Int)) = I (l - (xs.length : Int) - (((xs.take 0).map (fun y : List Entry => y.length)).sum : Nat)) from congrArg I (by simp))), rfl, (St.start w)⟩
    intro m2 f3 W4 hJ5
    obtain ⟨k, hcd7_0, hcd7_1, rfl, hs7_0, hs7_1, hs7_5, st6⟩ := hJ5
    refine wp_seq (wp_seq (aA (sg (aB (v := I (k : Int)) hs7_5 (sg (aB (v := v) hs7_0 (sg (aV iN rfl h (sg (aY rfl rfl (aE (aR rfl (fun h8 => ?_) (fun h8 => ?_)))))))))))))
    · have h8p := of_decide_eq_true h8
      refine wp_skip (wp_seq (wp_block (wp_seq (aA (sg (aB (v := v) hs7_0 (sg (aB (v := I (k : Int)) hs7_5 ?_))))))))
      have hi51fab : k < xs.length := (by omega)
      have hq_ := idx h (i := k) hi51fab
      obtain ⟨b9, o9, cs9, f9, hp9, hr9, hc9, hm9⟩ := hq_
      have hk9 := hc9
      obtain ⟨v10, rfl, h11⟩ := hk9
      refine sg (aG iN rfl hp9 rfl rfl (sg (aK rG rfl rfl hr9 st6.below (i := 0) rfl rfl (sg (aB (v := I (l - (xs.length : Int) - (((xs.take k).map (fun y : List Entry => y.length)).sum : Nat))) hs7_1 ?_)))))
      have hstep : ((xs.take (k + 1)).map (fun y : List Entry => y.length)).sum = ((xs.take k).map (fun y : List Entry => y.length)).sum + xs[k].length := nX (fun y : List Entry => y.length) xs k (by omega)
      have hle := iL (fun y : List Entry => y.length) xs (k + 1)
      refine sg (aZ Tryz.func102 rfl rfl rfl ((szEntryS_n W4 (h11.below st6.below) (l - (xs.length : Int) - (((xs.take k).map (fun y : List Entry => y.length)).sum : Nat)) (by omega) (by omega)).mono ?_)); rintro _ W12 ⟨rfl, hk13⟩; refine ⟨_, rfl, ?_⟩
      have st14 := St.call st6 hk13
      refine sg (aD (v := I (szL (l - (xs.length : Int) - (((xs.take k).map (fun y : List Entry => y.length)).sum : Nat)) ((xs[k]'hi51fab)).length)) rfl (aE (wp_seq (aA (sg (aB (v := I (szL (l - (xs.length : Int) - (((xs.take k).map (fun y : List Entry => y.length)).sum : Nat)) ((xs[k]'hi51fab)).length)) rfl (sg (aY rfl rfl (aE (aR rfl (fun h16 => ?_) (fun h16 => ?_)))))))))))
      · have h16p := of_decide_eq_true h16
        have h16q := mA h16p (by omega)
        refine wp_seq (aA (sg (aD (v := I (-1)) rfl (aE (wp_ret ?_))))); repeat first|refine aH ?_|refine aI ?_
        refine aW Tryz.results49 rfl ?_
        exact ⟨congrArg (fun z => Ending.returned (I z)) (lS (by omega)).symm, st14.bare⟩
      · have h16p := of_decide_eq_false h16
        have h16q := mB h16p (by omega)
        refine wp_skip (aA (sg (aB (v := I (k : Int)) hs7_5 (sg (aP rfl rfl (by (simp only [I64] at *; omega)) (sg (aD (v := I ((k : Int) + 1)) rfl (aE ?_))))))))
        exact ⟨_, xs.length - (k + 1), (by omega), rfl, k + 1, (by omega), (by omega), rfl, hs7_0, (Eq.trans (show _ = I (szL (l - (xs.length : Int) - (((xs.take k).map (fun y : List Entry => y.length)).sum : Nat)) ((xs[k]'hi51fab)).length) from rfl) (show I (szL (l - (xs.length : Int) - (((xs.take k).map (fun y : List Entry => y.length)).sum : Nat)) ((xs[k]'hi51fab)).length) = I (l - (xs.length : Int) - (((xs.take (k + 1)).map (fun y : List Entry => y.length)).sum : Nat)) from congrArg I (by omega))), rfl, st14⟩
    · have h8p := of_decide_eq_false h8
      refine wp_exit (wp_seq (aA (sg (aB (v := I (l - (xs.length : Int) - (((xs.take k).map (fun y : List Entry => y.length)).sum : Nat))) hs7_1 (sg (aD (v := I (l - (xs.length : Int) - (((xs.take k).map (fun y : List Entry => y.length)).sum : Nat))) rfl (aE (wp_ret ?_)))))))); repeat first|refine aH ?_|refine aI ?_
      refine aW Tryz.results49 rfl ?_
      obtain rfl : k = xs.length := by omega
      rw [List.take_length] at *
      exact ⟨congrArg (fun z => Ending.returned (I z)) (by rw [pW (by omega)]; try omega), st6.bare⟩
set_option maxHeartbeats 2000000 in
theorem szYard_n (w : World) {x : Yard} {cs : List Value} {fp : List Nat} (hc : Shape.C w cs x fp) (l : Int) (hl : 0 ≤ l) (hl2 : l ≤ 1048576) :
    Calls Tryz.prog 15 #[.agg cs.toArray, I l] w fun e w' => e = .returned (I (szL l x.wt)) ∧ St w w' [] := by
  have hwt : x.wt = (wtL (fun y : List Entry => y.length) x.shelf) + (wtL (fun y : Run => y.wt) x.runs) := rfl
  refine cF Tryz.func15 rfl Tryz.ntmps15 (by decide) (wp_seq (aA (sg (aQ (cs := cs) rfl (St.start w) ?_)))); intro b1 W2 hb3 st4
  refine sg (aD (v := I 0) rfl (aE (wp_seq (aA (sg (aC rN rfl ?_))))))
  have hk6 := hc
  obtain ⟨v6_0, v6_1, g6_0, g6_1, rfl, hok6, h6_0, h6_1, rfl⟩ := hk6
  refine sg (aF qC rfl rfl (st4.get 0 rfl) (i := 2) rfl rfl (sg (aB (v := I l) rfl (sg (aZ Tryz.func49 rfl rfl rfl ((szEntrySS_n W2 (h6_0.below st4.below) l (by omega) (by omega)).mono ?_)))))); rintro _ W7 ⟨rfl, hk8⟩; refine ⟨_, rfl, ?_⟩
  have st9 := St.call st4 hk8
  refine sg (aD (v := I (szL l (wtL (fun y : List Entry => y.length) x.shelf))) rfl (aE (wp_seq (wp_seq (aA (sg (aB (v := I (szL l (wtL (fun y : List Entry => y.length) x.shelf))) rfl (sg (aY rfl rfl (aE (aR rfl (fun h11 => ?_) (fun h11 => ?_))))))))))))
  · have h11p := of_decide_eq_true h11
    have h11q := mA h11p (by omega)
    refine wp_seq (aA (sg (aD (v := I (-1)) rfl (aE (wp_ret ?_))))); repeat first|refine aH ?_|refine aI ?_
    refine aW Tryz.results15 rfl ?_
    exact ⟨congrArg (fun z => Ending.returned (I z)) (lS (by omega)).symm, st9.bare⟩
  · have h11p := of_decide_eq_false h11
    have h11q := mB h11p (by omega)
    refine wp_skip (wp_seq (aA (sg (aC rM rfl (sg (aF uL rfl rfl (st9.get 0 rfl) (i := 3) rfl rfl (sg (aB (v := I (szL l (wtL (fun y : List Entry => y.length) x.shelf))) rfl (sg (aZ Tryz.func50 rfl rfl rfl ((szRunS_n W7 (h6_1.below st9.below) (szL l (wtL (fun y : List Entry => y.length) x.shelf)) (by omega) (by omega)).mono ?_))))))))))); rintro _ W12 ⟨rfl, hk13⟩; refine ⟨_, rfl, ?_⟩
    have st14 := St.call st9 hk13
    refine sg (aD (v := I (szL (szL l (wtL (fun y : List Entry => y.length) x.shelf)) (wtL (fun y : Run => y.wt) x.runs))) rfl (aE (wp_seq (wp_seq (aA (sg (aB (v := I (szL (szL l (wtL (fun y : List Entry => y.length) x.shelf)) (wtL (fun y : Run => y.wt) x.runs))) rfl (sg (aY rfl rfl (aE (aR rfl (fun h16 => ?_) (fun h16 => ?_))))))))))))
    · have h16p := of_decide_eq_true h16
      have h16q := mA h16p (by omega)
      refine wp_seq (aA (sg (aD (v := I (-1)) rfl (aE (wp_ret ?_))))); repeat first|refine aH ?_|refine aI ?_
      refine aW Tryz.results15 rfl ?_
      exact ⟨congrArg (fun z => Ending.returned (I z)) (lS (by omega)).symm, st14.bare⟩
    · have h16p := of_decide_eq_false h16
      have h16q := mB h16p (by omega)
      refine wp_skip (wp_seq (aA (sg (aB (v := I (szL (szL l (wtL (fun y : List Entry => y.length) x.shelf)) (wtL (fun y : Run => y.wt) x.runs))) rfl (sg (aD (v := I (szL (szL l (wtL (fun y : List Entry => y.length) x.shelf)) (wtL (fun y : Run => y.wt) x.runs))) rfl (aE (wp_ret ?_)))))))); repeat first|refine aH ?_|refine aI ?_
      refine aW Tryz.results15 rfl ?_
      exact ⟨congrArg (fun z => Ending.returned (I z)) (by rw [pW (n := x.wt) (by omega)]; try omega), st14.bare⟩
end Go.Proofs.YtchnllpegfbleaaGreat
namespace Go.Proofs.YtchnllpegfbleaaGreat
set_option linter.unusedSimpArgs false
set_option linter.unusedVariables false
set_option maxRecDepth 100000
open Go.RowKit

theorem Edge_ext {x y : Edge} (h0 : x.from_ = y.from_) (h1 : x.to_ = y.to_) : x = y := by
  cases x; cases y; simp only at *; subst_vars; rfl
set_option maxHeartbeats 2000000 in
theorem eqEdge_n (w : World) {x y : Edge} {cs ds : List Value} {fp gp : List Nat} (hc : Shape.C w cs x fp) (hd : Shape.C w ds y gp) :
    Calls Tryz.prog 238 #[.agg cs.toArray, .agg ds.toArray] w fun e w' => e = .returned (.bool (eqB x y)) ∧ St w w' [] := by
  refine cF Tryz.func238 rfl Tryz.ntmps238 (by decide) (wp_seq (aA (sg (aQ (cs := cs) rfl (St.start w) ?_)))); intro b1 W2 hb3 st4
  refine sg (aQ (cs := ds) rfl st4 ?_); intro b6 W7 hb8 st9
  refine sg (aD (v := .bool false) rfl (aE (wp_seq (wp_seq (aA (sg (aC fU rfl ?_)))))))
  have hk11 := hc
  obtain ⟨he11, rfl, hok11⟩ := hk11
  have he11 : _ = [I x.from_, I x.to_] := he11
  subst he11
  refine sg (aF aJ rfl rfl (st9.get 1 rfl) (i := 0) rfl rfl (sg (aC fU rfl ?_)))
  have hk12 := hd
  obtain ⟨he12, rfl, hok12⟩ := hk12
  have he12 : _ = [I y.from_, I y.to_] := he12
  subst he12
  refine sg (aF aJ rfl rfl (st9.get 0 rfl) (i := 0) rfl rfl (sg (bL rfl rfl (aE (aR rfl (fun h13 => ?_) (fun h13 => ?_))))))
  · have h13p := of_decide_eq_false (aS h13)
    refine wp_seq (aA (sg (aD (v := .bool false) rfl (aE (wp_ret ?_))))); repeat first|refine aH ?_|refine aI ?_
    refine aW Tryz.results238 rfl ?_
    exact ⟨congrArg (fun z => Ending.returned (.bool z)) (eM (fun e => by subst e; first | exact h13p rfl | exact absurd (aS h13) (by rw [dV rfl]; decide) | exact absurd (aS h13) (by simp))).symm, st9.bare⟩
  · have h13p := of_decide_eq_true (aX h13)
    refine wp_skip (wp_seq (wp_seq (aA (sg (aC fO rfl (sg (aF aJ rfl rfl (st9.get 1 rfl) (i := 1) rfl rfl (sg (aC fO rfl (sg (aF aJ rfl rfl (st9.get 0 rfl) (i := 1) rfl rfl (sg (bL rfl rfl (aE (aR rfl (fun h14 => ?_) (fun h14 => ?_))))))))))))))))
    · have h14p := of_decide_eq_false (aS h14)
      refine wp_seq (aA (sg (aD (v := .bool false) rfl (aE (wp_ret ?_))))); repeat first|refine aH ?_|refine aI ?_
      refine aW Tryz.results238 rfl ?_
      exact ⟨congrArg (fun z => Ending.returned (.bool z)) (eM (fun e => by subst e; first | exact h14p rfl | exact absurd (aS h14) (by rw [dV rfl]; decide) | exact absurd (aS h14) (by simp))).symm, st9.bare⟩
    · have h14p := of_decide_eq_true (aX h14)
      refine wp_skip (wp_seq (aA (sg (aD (v := .bool true) rfl (aE (wp_ret ?_)))))); repeat first|refine aH ?_|refine aI ?_
      refine aW Tryz.results238 rfl ?_
      exact ⟨congrArg (fun z => Ending.returned (.bool z)) (dV (Edge_ext h13p h14p)).symm, st9.bare⟩
set_option maxHeartbeats 2000000 in
theorem eqEdgeS_n (w : World) {v u : Value} {xs ys : List Edge} {fp gp : List Nat} (h : Sl w v xs fp) (g : Sl w u ys gp) :
    Calls Tryz.prog 224 #[v, u] w fun e w' => e = .returned (.bool (eqB xs ys)) ∧ St w w' [] := by
  have hcap := h.len_le
  have hcap2 := g.len_le
  refine cF Tryz.func224 rfl Tryz.ntmps224 (by decide) (wp_seq (aA (sg (aD (v := .bool false) rfl (aE (wp_seq (wp_seq (aA (sg (aB (v := v) rfl (sg (aV cZ rfl h (sg (aB (v := u) rfl (sg (aV cZ rfl g ?_))))))))))))))))
  refine sg (bL rfl rfl (aE (aR rfl (fun h1 => ?_) (fun h1 => ?_))))
  · have h1p := of_decide_eq_false (aS h1)
    refine wp_seq (aA (sg (aD (v := .bool false) rfl (aE (wp_ret ?_))))); repeat first|refine aH ?_|refine aI ?_
    refine aW Tryz.results224 rfl ?_
    exact ⟨congrArg (fun z => Ending.returned (.bool z)) (eM (fun e => h1p (by rw [e]))).symm, (St.start w).bare⟩
  · have h1p := of_decide_eq_true (aX h1)
    refine wp_skip (wp_seq (wp_seq (aA (sg (aD (v := I 0) rfl (aE (wp_block (bH (fun (m : Nat) (f : Nat → Value) (W : World) => ∃ (k : Nat), k ≤ xs.length ∧ xs.take k = ys.take k ∧ m = xs.length - k ∧ f 0 = v ∧ f 1 = u ∧ f 5 = I (k : Int) ∧ St w W ([])) (xs.length - 0) ?_ ?_))))))))
    · exact ⟨0, Nat.zero_le _, rfl, rfl, rfl, rfl, rfl, (St.start w)⟩
    intro m2 f3 W4 hJ5
    obtain ⟨k, hk, htk, rfl, hs7_0, hs7_1, hs7_5, st6⟩ := hJ5
    refine wp_seq (wp_seq (aA (sg (aB (v := I (k : Int)) hs7_5 (sg (aB (v := v) hs7_0 (sg (aV cZ rfl h (sg (aY rfl rfl (aE (aR rfl (fun h8 => ?_) (fun h8 => ?_)))))))))))))
    · have h8p := of_decide_eq_true h8
      refine wp_skip (wp_seq (wp_block (wp_seq ?_)))
      have hi51fab : k < xs.length := (by omega)
      have hq_ := idx h (i := k) hi51fab
      obtain ⟨b9, o9, cs9, f9, hp9, hr9, hc9, hm9⟩ := hq_
      have hk10 := hc9
      obtain ⟨he10, rfl, hok10⟩ := hk10
      have he10 : _ = [I (xs[k]'hi51fab).from_, I (xs[k]'hi51fab).to_] := he10
      subst he10
      have hi28e79 : k < ys.length := (by omega)
      have hq_ := idx g (i := k) hi28e79
      obtain ⟨b11, o11, cs11, f11, hp11, hr11, hc11, hm11⟩ := hq_
      have hk12 := hc11
      obtain ⟨he12, rfl, hok12⟩ := hk12
      have he12 : _ = [I (ys[k]'hi28e79).from_, I (ys[k]'hi28e79).to_] := he12
      subst he12
      refine dI [Pl.is (v) (Sl.yl h), Pl.is (I (k : Int)), Pl.is (.pointer (some ⟨b9, o9, none⟩)), Pl.is (.agg #[I (xs[k]'hi51fab).from_, I (xs[k]'hi51fab).to_]), Pl.is (u) (Sl.yl g), Pl.is (I (k : Int)), Pl.is (.pointer (some ⟨b11, o11, none⟩)), Pl.is (.agg #[I (ys[k]'hi28e79).from_, I (ys[k]'hi28e79).to_]), Pl.bool (eqB (xs[k]'hi51fab) (ys[k]'hi28e79)), Pl.bool (!(eqB (xs[k]'hi51fab) (ys[k]'hi28e79)))] mix (by rfl) st6 ⟨(fun f W hst hbl hd hf => aB (v := v) ((hf 0 rfl).trans hs7_0) brq), (fun f W hst hbl hd hf => aB (v := I (k : Int)) ((hf 5 rfl).trans hs7_5) brq), (fun f W hst hbl hd hf => aG cZ (hd 0 17 rfl rfl) hp9 (hd 1 18 rfl rfl) rfl brq), (fun f W hst hbl hd hf => cS (cs := [I (xs[k]'hi51fab).from_, I (xs[k]'hi51fab).to_]) fN rfl (hd 2 19 rfl rfl) hr9 hst.below (i := 0) rfl rfl rfl brq), (fun f W hst hbl hd hf => aB (v := u) ((hf 1 rfl).trans hs7_1) brq), (fun f W hst hbl hd hf => aB (v := I (k : Int)) ((hf 5 rfl).trans hs7_5) brq), (fun f W hst hbl hd hf => aG cZ (hd 4 21 rfl rfl) hp11 (hd 5 22 rfl rfl) rfl brq), (fun f W hst hbl hd hf => cS (cs := [I (ys[k]'hi28e79).from_, I (ys[k]'hi28e79).to_]) fN rfl (hd 6 23 rfl rfl) hr11 hst.below (i := 0) rfl rfl rfl brq), (fun f W hst hbl hd hf => aZ Tryz.func238 rfl (hd 3 20 rfl rfl) (hd 7 24 rfl rfl) ((eqEdge_n W hc9 hc11).mono (by rintro e W2 ⟨rfl, hk⟩; exact ⟨_, rfl, hk.below, rfl⟩))), (fun f W hst hbl hd hf => bO (hd 8 25 rfl rfl) brq), trivial⟩ ?_
      intro f13 W14 st15 hb16 hv17 hf18
      refine aR (hv17 9 26 (by decide) rfl) (fun h19 => ?_) (fun h19 => ?_)
      · refine wp_seq (aA (sg (aD (v := .bool false) rfl (aE (wp_ret ?_))))); repeat first|refine aH ?_|refine aI ?_
        refine aW Tryz.results224 rfl ?_
        have hne : ¬ xs[k] = ys[k]'(by omega) := fun e => absurd (aS h19) (by rw [dV e]; decide)
        exact ⟨congrArg (fun z => Ending.returned (.bool z)) (eM (fun e => hne (by subst e; rfl))).symm, st15.bare⟩
      · refine wp_skip (aA (sg (aB (v := I (k : Int)) ((hf18 5 rfl).trans hs7_5) (sg (aP rfl rfl (by (simp only [I64] at *; omega)) (sg (aD (v := I ((k : Int) + 1)) rfl (aE ?_))))))))
        exact ⟨_, xs.length - (k + 1), (by omega), rfl, k + 1, (by omega), (iA (by omega) (by omega) htk (eqB_iff.1 (aX h19))), rfl, ((hf18 0 rfl).trans hs7_0), ((hf18 1 rfl).trans hs7_1), rfl, st15⟩
    · have h8p := of_decide_eq_false h8
      refine wp_exit (wp_seq (aA (sg (aD (v := .bool true) rfl (aE (wp_ret ?_)))))); repeat first|refine aH ?_|refine aI ?_
      refine aW Tryz.results224 rfl ?_
      obtain rfl : k = xs.length := by omega
      rw [List.take_length, List.take_of_length_le (by omega)] at htk
      exact ⟨congrArg (fun z => Ending.returned (.bool z)) (dV htk).symm, st6.bare⟩
theorem Plan_ext {x y : Plan} (h0 : x.prio = y.prio) (h1 : x.most = y.most) (h2 : x.wait = y.wait) (h3 : x.tasks = y.tasks) (h4 : x.edges = y.edges) : x = y := by
  cases x; cases y; simp only at *; subst_vars; rfl
set_option maxHeartbeats 2000000 in
theorem eqPlan_n (w : World) {x y : Plan} {cs ds : List Value} {fp gp : List Nat} (hc : Shape.C w cs x fp) (hd : Shape.C w ds y gp) :
    Calls Tryz.prog 179 #[.agg cs.toArray, .agg ds.toArray] w fun e w' => e = .returned (.bool (eqB x y)) ∧ St w w' [] := by
  refine cF Tryz.func179 rfl Tryz.ntmps179 (by decide) (wp_seq (aA (sg (aQ (cs := cs) rfl (St.start w) ?_)))); intro b1 W2 hb3 st4
  refine sg (aQ (cs := ds) rfl st4 ?_); intro b6 W7 hb8 st9
  refine sg (aD (v := .bool false) rfl (aE (wp_seq (wp_seq (aA (sg (aC gB rfl ?_)))))))
  have hk11 := hc
  obtain ⟨v11_0, g11_0, rfl, hok11, h11_0, rfl⟩ := hk11
  refine sg (aF aJ rfl rfl (st9.get 1 rfl) (i := 0) rfl rfl (sg (aC gB rfl ?_)))
  have hk12 := hd
  obtain ⟨v12_0, g12_0, rfl, hok12, h12_0, rfl⟩ := hk12
  refine sg (aF aJ rfl rfl (st9.get 0 rfl) (i := 0) rfl rfl (sg (bL rfl rfl (aE (aR rfl (fun h13 => ?_) (fun h13 => ?_))))))
  · have h13p := of_decide_eq_false (aS h13)
    refine wp_seq (aA (sg (aD (v := .bool false) rfl (aE (wp_ret ?_))))); repeat first|refine aH ?_|refine aI ?_
    refine aW Tryz.results179 rfl ?_
    exact ⟨congrArg (fun z => Ending.returned (.bool z)) (eM (fun e => by subst e; first | exact h13p rfl | exact absurd (aS h13) (by rw [dV rfl]; decide) | exact absurd (aS h13) (by simp))).symm, st9.bare⟩
  · have h13p := of_decide_eq_true (aX h13)
    refine wp_skip (wp_seq (wp_seq (aA (sg (aC fG rfl (sg (aF aJ rfl rfl (st9.get 1 rfl) (i := 1) rfl rfl (sg (aC fG rfl (sg (aF aJ rfl rfl (st9.get 0 rfl) (i := 1) rfl rfl (sg (bL rfl rfl (aE (aR rfl (fun h14 => ?_) (fun h14 => ?_))))))))))))))))
    · have h14p := of_decide_eq_false (aS h14)
      refine wp_seq (aA (sg (aD (v := .bool false) rfl (aE (wp_ret ?_))))); repeat first|refine aH ?_|refine aI ?_
      refine aW Tryz.results179 rfl ?_
      exact ⟨congrArg (fun z => Ending.returned (.bool z)) (eM (fun e => by subst e; first | exact h14p rfl | exact absurd (aS h14) (by rw [dV rfl]; decide) | exact absurd (aS h14) (by simp))).symm, st9.bare⟩
    · have h14p := of_decide_eq_true (aX h14)
      refine wp_skip (wp_seq (wp_seq (aA (sg (aC gM rfl (sg (aF aJ rfl rfl (st9.get 1 rfl) (i := 2) rfl rfl (sg (aC gM rfl (sg (aF aJ rfl rfl (st9.get 0 rfl) (i := 2) rfl rfl (sg (bL rfl rfl (aE (aR rfl (fun h15 => ?_) (fun h15 => ?_))))))))))))))))
      · have h15p := of_decide_eq_false (aS h15)
        refine wp_seq (aA (sg (aD (v := .bool false) rfl (aE (wp_ret ?_))))); repeat first|refine aH ?_|refine aI ?_
        refine aW Tryz.results179 rfl ?_
        exact ⟨congrArg (fun z => Ending.returned (.bool z)) (eM (fun e => by subst e; first | exact h15p rfl | exact absurd (aS h15) (by rw [dV rfl]; decide) | exact absurd (aS h15) (by simp))).symm, st9.bare⟩
      · have h15p := of_decide_eq_true (aX h15)
        refine wp_skip (wp_seq (wp_seq (aA (sg (aC eK rfl (sg (aF aJ rfl rfl (st9.get 1 rfl) (i := 3) rfl rfl (sg (aC eK rfl (sg (aF aJ rfl rfl (st9.get 0 rfl) (i := 3) rfl rfl (sg (bL rfl rfl (aE (aR rfl (fun h16 => ?_) (fun h16 => ?_))))))))))))))))
        · have h16p := of_decide_eq_false (aS h16)
          refine wp_seq (aA (sg (aD (v := .bool false) rfl (aE (wp_ret ?_))))); repeat first|refine aH ?_|refine aI ?_
          refine aW Tryz.results179 rfl ?_
          exact ⟨congrArg (fun z => Ending.returned (.bool z)) (eM (fun e => by subst e; first | exact h16p rfl | exact absurd (aS h16) (by rw [dV rfl]; decide) | exact absurd (aS h16) (by simp))).symm, st9.bare⟩
        · have h16p := of_decide_eq_true (aX h16)
          refine wp_skip (wp_seq (wp_seq (aA (sg (aC dK rfl (sg (aF eB rfl rfl (st9.get 1 rfl) (i := 4) rfl rfl (sg (aC dK rfl (sg (aF eB rfl rfl (st9.get 0 rfl) (i := 4) rfl rfl (sg (aZ Tryz.func224 rfl rfl rfl ((eqEdgeS_n W7 (h11_0.below st9.below) (h12_0.below st9.below)).mono ?_)))))))))))))); rintro _ W17 ⟨rfl, hk18⟩; refine ⟨_, rfl, ?_⟩
          have st19 := St.call st9 hk18
          refine sg (bO rfl (aE (aR rfl (fun h21 => ?_) (fun h21 => ?_))))
          · refine wp_seq (aA (sg (aD (v := .bool false) rfl (aE (wp_ret ?_))))); repeat first|refine aH ?_|refine aI ?_
            refine aW Tryz.results179 rfl ?_
            exact ⟨congrArg (fun z => Ending.returned (.bool z)) (eM (fun e => by subst e; first | exact absurd (aS h21) (by rw [dV rfl]; decide) | exact absurd (aS h21) (by simp))).symm, st19.bare⟩
          · refine wp_skip (wp_seq (aA (sg (aD (v := .bool true) rfl (aE (wp_ret ?_)))))); repeat first|refine aH ?_|refine aI ?_
            refine aW Tryz.results179 rfl ?_
            exact ⟨congrArg (fun z => Ending.returned (.bool z)) (dV (Plan_ext h13p h14p h15p h16p (eqB_iff.1 (aX h21)))).symm, st19.bare⟩
theorem Entry_ext {x y : Entry} (h0 : x.prio = y.prio) (h1 : x.seq = y.seq) (h2 : x.run = y.run) (h3 : x.task = y.task) : x = y := by
  cases x; cases y; simp only at *; subst_vars; rfl
set_option maxHeartbeats 2000000 in
theorem eqEntry_n (w : World) {x y : Entry} {cs ds : List Value} {fp gp : List Nat} (hc : Shape.C w cs x fp) (hd : Shape.C w ds y gp) :
    Calls Tryz.prog 178 #[.agg cs.toArray, .agg ds.toArray] w fun e w' => e = .returned (.bool (eqB x y)) ∧ St w w' [] := by
  refine cF Tryz.func178 rfl Tryz.ntmps178 (by decide) (wp_seq (aA (sg (aQ (cs := cs) rfl (St.start w) ?_)))); intro b1 W2 hb3 st4
  refine sg (aQ (cs := ds) rfl st4 ?_); intro b6 W7 hb8 st9
  refine sg (aD (v := .bool false) rfl (aE (wp_seq (wp_seq (aA (sg (aC eS rfl ?_)))))))
  have hk11 := hc
  obtain ⟨he11, rfl, hok11⟩ := hk11
  have he11 : _ = [I x.prio, I x.seq, I x.run, I x.task] := he11
  subst he11
  refine sg (aF aJ rfl rfl (st9.get 1 rfl) (i := 0) rfl rfl (sg (aC eS rfl ?_)))
  have hk12 := hd
  obtain ⟨he12, rfl, hok12⟩ := hk12
  have he12 : _ = [I y.prio, I y.seq, I y.run, I y.task] := he12
  subst he12
  refine sg (aF aJ rfl rfl (st9.get 0 rfl) (i := 0) rfl rfl (sg (bL rfl rfl (aE (aR rfl (fun h13 => ?_) (fun h13 => ?_))))))
  · have h13p := of_decide_eq_false (aS h13)
    refine wp_seq (aA (sg (aD (v := .bool false) rfl (aE (wp_ret ?_))))); repeat first|refine aH ?_|refine aI ?_
    refine aW Tryz.results178 rfl ?_
    exact ⟨congrArg (fun z => Ending.returned (.bool z)) (eM (fun e => by subst e; first | exact h13p rfl | exact absurd (aS h13) (by rw [dV rfl]; decide) | exact absurd (aS h13) (by simp))).symm, st9.bare⟩
  · have h13p := of_decide_eq_true (aX h13)
    refine wp_skip (wp_seq (wp_seq (aA (sg (aC eR rfl (sg (aF aJ rfl rfl (st9.get 1 rfl) (i := 1) rfl rfl (sg (aC eR rfl (sg (aF aJ rfl rfl (st9.get 0 rfl) (i := 1) rfl rfl (sg (bL rfl rfl (aE (aR rfl (fun h14 => ?_) (fun h14 => ?_))))))))))))))))
    · have h14p := of_decide_eq_false (aS h14)
      refine wp_seq (aA (sg (aD (v := .bool false) rfl (aE (wp_ret ?_))))); repeat first|refine aH ?_|refine aI ?_
      refine aW Tryz.results178 rfl ?_
      exact ⟨congrArg (fun z => Ending.returned (.bool z)) (eM (fun e => by subst e; first | exact h14p rfl | exact absurd (aS h14) (by rw [dV rfl]; decide) | exact absurd (aS h14) (by simp))).symm, st9.bare⟩
    · have h14p := of_decide_eq_true (aX h14)
      refine wp_skip (wp_seq (wp_seq (aA (sg (aC fQ rfl (sg (aF aJ rfl rfl (st9.get 1 rfl) (i := 2) rfl rfl (sg (aC fQ rfl (sg (aF aJ rfl rfl (st9.get 0 rfl) (i := 2) rfl rfl (sg (bL rfl rfl (aE (aR rfl (fun h15 => ?_) (fun h15 => ?_))))))))))))))))
      · have h15p := of_decide_eq_false (aS h15)
        refine wp_seq (aA (sg (aD (v := .bool false) rfl (aE (wp_ret ?_))))); repeat first|refine aH ?_|refine aI ?_
        refine aW Tryz.results178 rfl ?_
        exact ⟨congrArg (fun z => Ending.returned (.bool z)) (eM (fun e => by subst e; first | exact h15p rfl | exact absurd (aS h15) (by rw [dV rfl]; decide) | exact absurd (aS h15) (by simp))).symm, st9.bare⟩
      · have h15p := of_decide_eq_true (aX h15)
        refine wp_skip (wp_seq (wp_seq (aA (sg (aC fH rfl (sg (aF aJ rfl rfl (st9.get 1 rfl) (i := 3) rfl rfl (sg (aC fH rfl (sg (aF aJ rfl rfl (st9.get 0 rfl) (i := 3) rfl rfl (sg (bL rfl rfl (aE (aR rfl (fun h16 => ?_) (fun h16 => ?_))))))))))))))))
        · have h16p := of_decide_eq_false (aS h16)
          refine wp_seq (aA (sg (aD (v := .bool false) rfl (aE (wp_ret ?_))))); repeat first|refine aH ?_|refine aI ?_
          refine aW Tryz.results178 rfl ?_
          exact ⟨congrArg (fun z => Ending.returned (.bool z)) (eM (fun e => by subst e; first | exact h16p rfl | exact absurd (aS h16) (by rw [dV rfl]; decide) | exact absurd (aS h16) (by simp))).symm, st9.bare⟩
        · have h16p := of_decide_eq_true (aX h16)
          refine wp_skip (wp_seq (aA (sg (aD (v := .bool true) rfl (aE (wp_ret ?_)))))); repeat first|refine aH ?_|refine aI ?_
          refine aW Tryz.results178 rfl ?_
          exact ⟨congrArg (fun z => Ending.returned (.bool z)) (dV (Entry_ext h13p h14p h15p h16p)).symm, st9.bare⟩
set_option maxHeartbeats 2000000 in
theorem eqEntryS_n (w : World) {v u : Value} {xs ys : List Entry} {fp gp : List Nat} (h : Sl w v xs fp) (g : Sl w u ys gp) :
    Calls Tryz.prog 113 #[v, u] w fun e w' => e = .returned (.bool (eqB xs ys)) ∧ St w w' [] := by
  have hcap := h.len_le
  have hcap2 := g.len_le
  refine cF Tryz.func113 rfl Tryz.ntmps113 (by decide) (wp_seq (aA (sg (aD (v := .bool false) rfl (aE (wp_seq (wp_seq (aA (sg (aB (v := v) rfl (sg (aV sl_EntryS rfl h (sg (aB (v := u) rfl (sg (aV sl_EntryS rfl g ?_))))))))))))))))
  refine sg (bL rfl rfl (aE (aR rfl (fun h1 => ?_) (fun h1 => ?_))))
  · have h1p := of_decide_eq_false (aS h1)
    refine wp_seq (aA (sg (aD (v := .bool false) rfl (aE (wp_ret ?_))))); repeat first|refine aH ?_|refine aI ?_
    refine aW Tryz.results113 rfl ?_
    exact ⟨congrArg (fun z => Ending.returned (.bool z)) (eM (fun e => h1p (by rw [e]))).symm, (St.start w).bare⟩
  · have h1p := of_decide_eq_true (aX h1)
    refine wp_skip (wp_seq (wp_seq (aA (sg (aD (v := I 0) rfl (aE (wp_block (bH (fun (m : Nat) (f : Nat → Value) (W : World) => ∃ (k : Nat), k ≤ xs.length ∧ xs.take k = ys.take k ∧ m = xs.length - k ∧ f 0 = v ∧ f 1 = u ∧ f 5 = I (k : Int) ∧ St w W ([])) (xs.length - 0) ?_ ?_))))))))
    · exact ⟨0, Nat.zero_le _, rfl, rfl, rfl, rfl, rfl, (St.start w)⟩
    intro m2 f3 W4 hJ5
    obtain ⟨k, hk, htk, rfl, hs7_0, hs7_1, hs7_5, st6⟩ := hJ5
    refine wp_seq (wp_seq (aA (sg (aB (v := I (k : Int)) hs7_5 (sg (aB (v := v) hs7_0 (sg (aV sl_EntryS rfl h (sg (aY rfl rfl (aE (aR rfl (fun h8 => ?_) (fun h8 => ?_)))))))))))))
    · have h8p := of_decide_eq_true h8
      refine wp_skip (wp_seq (wp_block (wp_seq ?_)))
      have hi51fab : k < xs.length := (by omega)
      have hq_ := idx h (i := k) hi51fab
      obtain ⟨b9, o9, cs9, f9, hp9, hr9, hc9, hm9⟩ := hq_
      have hk10 := hc9
      obtain ⟨he10, rfl, hok10⟩ := hk10
      have he10 : _ = [I (xs[k]'hi51fab).prio, I (xs[k]'hi51fab).seq, I (xs[k]'hi51fab).run, I (xs[k]'hi51fab).task] := he10
      subst he10
      have hi28e79 : k < ys.length := (by omega)
      have hq_ := idx g (i := k) hi28e79
      obtain ⟨b11, o11, cs11, f11, hp11, hr11, hc11, hm11⟩ := hq_
      have hk12 := hc11
      obtain ⟨he12, rfl, hok12⟩ := hk12
      have he12 : _ = [I (ys[k]'hi28e79).prio, I (ys[k]'hi28e79).seq, I (ys[k]'hi28e79).run, I (ys[k]'hi28e79).task] := he12
      subst he12
      refine dI [Pl.is (v) (Sl.yl h), Pl.is (I (k : Int)), Pl.is (.pointer (some ⟨b9, o9, none⟩)), Pl.is (.agg #[I (xs[k]'hi51fab).prio, I (xs[k]'hi51fab).seq, I (xs[k]'hi51fab).run, I (xs[k]'hi51fab).task]), Pl.is (u) (Sl.yl g), Pl.is (I (k : Int)), Pl.is (.pointer (some ⟨b11, o11, none⟩)), Pl.is (.agg #[I (ys[k]'hi28e79).prio, I (ys[k]'hi28e79).seq, I (ys[k]'hi28e79).run, I (ys[k]'hi28e79).task]), Pl.bool (eqB (xs[k]'hi51fab) (ys[k]'hi28e79)), Pl.bool (!(eqB (xs[k]'hi51fab) (ys[k]'hi28e79)))] mix (by rfl) st6 ⟨(fun f W hst hbl hd hf => aB (v := v) ((hf 0 rfl).trans hs7_0) brq), (fun f W hst hbl hd hf => aB (v := I (k : Int)) ((hf 5 rfl).trans hs7_5) brq), (fun f W hst hbl hd hf => aG sl_EntryS (hd 0 17 rfl rfl) hp9 (hd 1 18 rfl rfl) rfl brq), (fun f W hst hbl hd hf => cS (cs := [I (xs[k]'hi51fab).prio, I (xs[k]'hi51fab).seq, I (xs[k]'hi51fab).run, I (xs[k]'hi51fab).task]) eA rfl (hd 2 19 rfl rfl) hr9 hst.below (i := 0) rfl rfl rfl brq), (fun f W hst hbl hd hf => aB (v := u) ((hf 1 rfl).trans hs7_1) brq), (fun f W hst hbl hd hf => aB (v := I (k : Int)) ((hf 5 rfl).trans hs7_5) brq), (fun f W hst hbl hd hf => aG sl_EntryS (hd 4 21 rfl rfl) hp11 (hd 5 22 rfl rfl) rfl brq), (fun f W hst hbl hd hf => cS (cs := [I (ys[k]'hi28e79).prio, I (ys[k]'hi28e79).seq, I (ys[k]'hi28e79).run, I (ys[k]'hi28e79).task]) eA rfl (hd 6 23 rfl rfl) hr11 hst.below (i := 0) rfl rfl rfl brq), (fun f W hst hbl hd hf => aZ Tryz.func178 rfl (hd 3 20 rfl rfl) (hd 7 24 rfl rfl) ((eqEntry_n W hc9 hc11).mono (by rintro e W2 ⟨rfl, hk⟩; exact ⟨_, rfl, hk.below, rfl⟩))), (fun f W hst hbl hd hf => bO (hd 8 25 rfl rfl) brq), trivial⟩ ?_
      intro f13 W14 st15 hb16 hv17 hf18
      refine aR (hv17 9 26 (by decide) rfl) (fun h19 => ?_) (fun h19 => ?_)
      · refine wp_seq (aA (sg (aD (v := .bool false) rfl (aE (wp_ret ?_))))); repeat first|refine aH ?_|refine aI ?_
        refine aW Tryz.results113 rfl ?_
        have hne : ¬ xs[k] = ys[k]'(by omega) := fun e => absurd (aS h19) (by rw [dV e]; decide)
        exact ⟨congrArg (fun z => Ending.returned (.bool z)) (eM (fun e => hne (by subst e; rfl))).symm, st15.bare⟩
      · refine wp_skip (aA (sg (aB (v := I (k : Int)) ((hf18 5 rfl).trans hs7_5) (sg (aP rfl rfl (by (simp only [I64] at *; omega)) (sg (aD (v := I ((k : Int) + 1)) rfl (aE ?_))))))))
        exact ⟨_, xs.length - (k + 1), (by omega), rfl, k + 1, (by omega), (iA (by omega) (by omega) htk (eqB_iff.1 (aX h19))), rfl, ((hf18 0 rfl).trans hs7_0), ((hf18 1 rfl).trans hs7_1), rfl, st15⟩
    · have h8p := of_decide_eq_false h8
      refine wp_exit (wp_seq (aA (sg (aD (v := .bool true) rfl (aE (wp_ret ?_)))))); repeat first|refine aH ?_|refine aI ?_
      refine aW Tryz.results113 rfl ?_
      obtain rfl : k = xs.length := by omega
      rw [List.take_length, List.take_of_length_le (by omega)] at htk
      exact ⟨congrArg (fun z => Ending.returned (.bool z)) (dV htk).symm, st6.bare⟩
theorem Task_ext {x y : Task} (h0 : x.state = y.state) (h1 : x.need = y.need) (h2 : x.try_ = y.try_) (h3 : x.until_ = y.until_) : x = y := by
  cases x; cases y; simp only at *; subst_vars; rfl
set_option maxHeartbeats 2000000 in
theorem eqTask_n (w : World) {x y : Task} {cs ds : List Value} {fp gp : List Nat} (hc : Shape.C w cs x fp) (hd : Shape.C w ds y gp) :
    Calls Tryz.prog 225 #[.agg cs.toArray, .agg ds.toArray] w fun e w' => e = .returned (.bool (eqB x y)) ∧ St w w' [] := by
  refine cF Tryz.func225 rfl Tryz.ntmps225 (by decide) (wp_seq (aA (sg (aQ (cs := cs) rfl (St.start w) ?_)))); intro b1 W2 hb3 st4
  refine sg (aQ (cs := ds) rfl st4 ?_); intro b6 W7 hb8 st9
  refine sg (aD (v := .bool false) rfl (aE (wp_seq (wp_seq (aA (sg (aC bP rfl ?_)))))))
  have hk11 := hc
  obtain ⟨he11, rfl, hok11⟩ := hk11
  have he11 : _ = [I x.state, I x.need, I x.try_, I x.until_] := he11
  subst he11
  refine sg (aF aJ rfl rfl (st9.get 1 rfl) (i := 0) rfl rfl (sg (aC bP rfl ?_)))
  have hk12 := hd
  obtain ⟨he12, rfl, hok12⟩ := hk12
  have he12 : _ = [I y.state, I y.need, I y.try_, I y.until_] := he12
  subst he12
  refine sg (aF aJ rfl rfl (st9.get 0 rfl) (i := 0) rfl rfl (sg (bL rfl rfl (aE (aR rfl (fun h13 => ?_) (fun h13 => ?_))))))
  · have h13p := of_decide_eq_false (aS h13)
    refine wp_seq (aA (sg (aD (v := .bool false) rfl (aE (wp_ret ?_))))); repeat first|refine aH ?_|refine aI ?_
    refine aW Tryz.results225 rfl ?_
    exact ⟨congrArg (fun z => Ending.returned (.bool z)) (eM (fun e => by subst e; first | exact h13p rfl | exact absurd (aS h13) (by rw [dV rfl]; decide) | exact absurd (aS h13) (by simp))).symm, st9.bare⟩
  · have h13p := of_decide_eq_true (aX h13)
    refine wp_skip (wp_seq (wp_seq (aA (sg (aC fF rfl (sg (aF aJ rfl rfl (st9.get 1 rfl) (i := 1) rfl rfl (sg (aC fF rfl (sg (aF aJ rfl rfl (st9.get 0 rfl) (i := 1) rfl rfl (sg (bL rfl rfl (aE (aR rfl (fun h14 => ?_) (fun h14 => ?_))))))))))))))))
    · have h14p := of_decide_eq_false (aS h14)
      refine wp_seq (aA (sg (aD (v := .bool false) rfl (aE (wp_ret ?_))))); repeat first|refine aH ?_|refine aI ?_
      refine aW Tryz.results225 rfl ?_
      exact ⟨congrArg (fun z => Ending.returned (.bool z)) (eM (fun e => by subst e; first | exact h14p rfl | exact absurd (aS h14) (by rw [dV rfl]; decide) | exact absurd (aS h14) (by simp))).symm, st9.bare⟩
    · have h14p := of_decide_eq_true (aX h14)
      refine wp_skip (wp_seq (wp_seq (aA (sg (aC eD rfl (sg (aF aJ rfl rfl (st9.get 1 rfl) (i := 2) rfl rfl (sg (aC eD rfl (sg (aF aJ rfl rfl (st9.get 0 rfl) (i := 2) rfl rfl (sg (bL rfl rfl (aE (aR rfl (fun h15 => ?_) (fun h15 => ?_))))))))))))))))
      · have h15p := of_decide_eq_false (aS h15)
        refine wp_seq (aA (sg (aD (v := .bool false) rfl (aE (wp_ret ?_))))); repeat first|refine aH ?_|refine aI ?_
        refine aW Tryz.results225 rfl ?_
        exact ⟨congrArg (fun z => Ending.returned (.bool z)) (eM (fun e => by subst e; first | exact h15p rfl | exact absurd (aS h15) (by rw [dV rfl]; decide) | exact absurd (aS h15) (by simp))).symm, st9.bare⟩
      · have h15p := of_decide_eq_true (aX h15)
        refine wp_skip (wp_seq (wp_seq (aA (sg (aC eT rfl (sg (aF aJ rfl rfl (st9.get 1 rfl) (i := 3) rfl rfl (sg (aC eT rfl (sg (aF aJ rfl rfl (st9.get 0 rfl) (i := 3) rfl rfl (sg (bL rfl rfl (aE (aR rfl (fun h16 => ?_) (fun h16 => ?_))))))))))))))))
        · have h16p := of_decide_eq_false (aS h16)
          refine wp_seq (aA (sg (aD (v := .bool false) rfl (aE (wp_ret ?_))))); repeat first|refine aH ?_|refine aI ?_
          refine aW Tryz.results225 rfl ?_
          exact ⟨congrArg (fun z => Ending.returned (.bool z)) (eM (fun e => by subst e; first | exact h16p rfl | exact absurd (aS h16) (by rw [dV rfl]; decide) | exact absurd (aS h16) (by simp))).symm, st9.bare⟩
        · have h16p := of_decide_eq_true (aX h16)
          refine wp_skip (wp_seq (aA (sg (aD (v := .bool true) rfl (aE (wp_ret ?_)))))); repeat first|refine aH ?_|refine aI ?_
          refine aW Tryz.results225 rfl ?_
          exact ⟨congrArg (fun z => Ending.returned (.bool z)) (dV (Task_ext h13p h14p h15p h16p)).symm, st9.bare⟩
set_option maxHeartbeats 2000000 in
theorem eqTaskS_n (w : World) {v u : Value} {xs ys : List Task} {fp gp : List Nat} (h : Sl w v xs fp) (g : Sl w u ys gp) :
    Calls Tryz.prog 180 #[v, u] w fun e w' => e = .returned (.bool (eqB xs ys)) ∧ St w w' [] := by
  have hcap := h.len_le
  have hcap2 := g.len_le
  refine cF Tryz.func180 rfl Tryz.ntmps180 (by decide) (wp_seq (aA (sg (aD (v := .bool false) rfl (aE (wp_seq (wp_seq (aA (sg (aB (v := v) rfl (sg (aV bD rfl h (sg (aB (v := u) rfl (sg (aV bD rfl g ?_))))))))))))))))
  refine sg (bL rfl rfl (aE (aR rfl (fun h1 => ?_) (fun h1 => ?_))))
  · have h1p := of_decide_eq_false (aS h1)
    refine wp_seq (aA (sg (aD (v := .bool false) rfl (aE (wp_ret ?_))))); repeat first|refine aH ?_|refine aI ?_
    refine aW Tryz.results180 rfl ?_
    exact ⟨congrArg (fun z => Ending.returned (.bool z)) (eM (fun e => h1p (by rw [e]))).symm, (St.start w).bare⟩
  · have h1p := of_decide_eq_true (aX h1)
    refine wp_skip (wp_seq (wp_seq (aA (sg (aD (v := I 0) rfl (aE (wp_block (bH (fun (m : Nat) (f : Nat → Value) (W : World) => ∃ (k : Nat), k ≤ xs.length ∧ xs.take k = ys.take k ∧ m = xs.length - k ∧ f 0 = v ∧ f 1 = u ∧ f 5 = I (k : Int) ∧ St w W ([])) (xs.length - 0) ?_ ?_))))))))
    · exact ⟨0, Nat.zero_le _, rfl, rfl, rfl, rfl, rfl, (St.start w)⟩
    intro m2 f3 W4 hJ5
    obtain ⟨k, hk, htk, rfl, hs7_0, hs7_1, hs7_5, st6⟩ := hJ5
    refine wp_seq (wp_seq (aA (sg (aB (v := I (k : Int)) hs7_5 (sg (aB (v := v) hs7_0 (sg (aV bD rfl h (sg (aY rfl rfl (aE (aR rfl (fun h8 => ?_) (fun h8 => ?_)))))))))))))
    · have h8p := of_decide_eq_true h8
      refine wp_skip (wp_seq (wp_block (wp_seq ?_)))
      have hi51fab : k < xs.length := (by omega)
      have hq_ := idx h (i := k) hi51fab
      obtain ⟨b9, o9, cs9, f9, hp9, hr9, hc9, hm9⟩ := hq_
      have hk10 := hc9
      obtain ⟨he10, rfl, hok10⟩ := hk10
      have he10 : _ = [I (xs[k]'hi51fab).state, I (xs[k]'hi51fab).need, I (xs[k]'hi51fab).try_, I (xs[k]'hi51fab).until_] := he10
      subst he10
      have hi28e79 : k < ys.length := (by omega)
      have hq_ := idx g (i := k) hi28e79
      obtain ⟨b11, o11, cs11, f11, hp11, hr11, hc11, hm11⟩ := hq_
      have hk12 := hc11
      obtain ⟨he12, rfl, hok12⟩ := hk12
      have he12 : _ = [I (ys[k]'hi28e79).state, I (ys[k]'hi28e79).need, I (ys[k]'hi28e79).try_, I (ys[k]'hi28e79).until_] := he12
      subst he12
      refine dI [Pl.is (v) (Sl.yl h), Pl.is (I (k : Int)), Pl.is (.pointer (some ⟨b9, o9, none⟩)), Pl.is (.agg #[I (xs[k]'hi51fab).state, I (xs[k]'hi51fab).need, I (xs[k]'hi51fab).try_, I (xs[k]'hi51fab).until_]), Pl.is (u) (Sl.yl g), Pl.is (I (k : Int)), Pl.is (.pointer (some ⟨b11, o11, none⟩)), Pl.is (.agg #[I (ys[k]'hi28e79).state, I (ys[k]'hi28e79).need, I (ys[k]'hi28e79).try_, I (ys[k]'hi28e79).until_]), Pl.bool (eqB (xs[k]'hi51fab) (ys[k]'hi28e79)), Pl.bool (!(eqB (xs[k]'hi51fab) (ys[k]'hi28e79)))] mix (by rfl) st6 ⟨(fun f W hst hbl hd hf => aB (v := v) ((hf 0 rfl).trans hs7_0) brq), (fun f W hst hbl hd hf => aB (v := I (k : Int)) ((hf 5 rfl).trans hs7_5) brq), (fun f W hst hbl hd hf => aG bD (hd 0 17 rfl rfl) hp9 (hd 1 18 rfl rfl) rfl brq), (fun f W hst hbl hd hf => cS (cs := [I (xs[k]'hi51fab).state, I (xs[k]'hi51fab).need, I (xs[k]'hi51fab).try_, I (xs[k]'hi51fab).until_]) fJ rfl (hd 2 19 rfl rfl) hr9 hst.below (i := 0) rfl rfl rfl brq), (fun f W hst hbl hd hf => aB (v := u) ((hf 1 rfl).trans hs7_1) brq), (fun f W hst hbl hd hf => aB (v := I (k : Int)) ((hf 5 rfl).trans hs7_5) brq), (fun f W hst hbl hd hf => aG bD (hd 4 21 rfl rfl) hp11 (hd 5 22 rfl rfl) rfl brq), (fun f W hst hbl hd hf => cS (cs := [I (ys[k]'hi28e79).state, I (ys[k]'hi28e79).need, I (ys[k]'hi28e79).try_, I (ys[k]'hi28e79).until_]) fJ rfl (hd 6 23 rfl rfl) hr11 hst.below (i := 0) rfl rfl rfl brq), (fun f W hst hbl hd hf => aZ Tryz.func225 rfl (hd 3 20 rfl rfl) (hd 7 24 rfl rfl) ((eqTask_n W hc9 hc11).mono (by rintro e W2 ⟨rfl, hk⟩; exact ⟨_, rfl, hk.below, rfl⟩))), (fun f W hst hbl hd hf => bO (hd 8 25 rfl rfl) brq), trivial⟩ ?_
      intro f13 W14 st15 hb16 hv17 hf18
      refine aR (hv17 9 26 (by decide) rfl) (fun h19 => ?_) (fun h19 => ?_)
      · refine wp_seq (aA (sg (aD (v := .bool false) rfl (aE (wp_ret ?_))))); repeat first|refine aH ?_|refine aI ?_
        refine aW Tryz.results180 rfl ?_
        have hne : ¬ xs[k] = ys[k]'(by omega) := fun e => absurd (aS h19) (by rw [dV e]; decide)
        exact ⟨congrArg (fun z => Ending.returned (.bool z)) (eM (fun e => hne (by subst e; rfl))).symm, st15.bare⟩
      · refine wp_skip (aA (sg (aB (v := I (k : Int)) ((hf18 5 rfl).trans hs7_5) (sg (aP rfl rfl (by (simp only [I64] at *; omega)) (sg (aD (v := I ((k : Int) + 1)) rfl (aE ?_))))))))
        exact ⟨_, xs.length - (k + 1), (by omega), rfl, k + 1, (by omega), (iA (by omega) (by omega) htk (eqB_iff.1 (aX h19))), rfl, ((hf18 0 rfl).trans hs7_0), ((hf18 1 rfl).trans hs7_1), rfl, st15⟩
    · have h8p := of_decide_eq_false h8
      refine wp_exit (wp_seq (aA (sg (aD (v := .bool true) rfl (aE (wp_ret ?_)))))); repeat first|refine aH ?_|refine aI ?_
      refine aW Tryz.results180 rfl ?_
      obtain rfl : k = xs.length := by omega
      rw [List.take_length, List.take_of_length_le (by omega)] at htk
      exact ⟨congrArg (fun z => Ending.returned (.bool z)) (dV htk).symm, st6.bare⟩
theorem Run_ext {x y : Run} (h0 : x.id = y.id) (h1 : x.plan = y.plan) (h2 : x.state = y.state) (h3 : x.tasks = y.tasks) : x = y := by
  cases x; cases y; simp only at *; subst_vars; rfl
set_option maxHeartbeats 2000000 in
theorem eqRun_n (w : World) {x y : Run} {cs ds : List Value} {fp gp : List Nat} (hc : Shape.C w cs x fp) (hd : Shape.C w ds y gp) :
    Calls Tryz.prog 114 #[.agg cs.toArray, .agg ds.toArray] w fun e w' => e = .returned (.bool (eqB x y)) ∧ St w w' [] := by
  refine cF Tryz.func114 rfl Tryz.ntmps114 (by decide) (wp_seq (aA (sg (aQ (cs := cs) rfl (St.start w) ?_)))); intro b1 W2 hb3 st4
  refine sg (aQ (cs := ds) rfl st4 ?_); intro b6 W7 hb8 st9
  refine sg (aD (v := .bool false) rfl (aE (wp_seq (wp_seq (aA (sg (aC eU rfl ?_)))))))
  have hk11 := hc
  obtain ⟨v11_0, v11_1, g11_0, g11_1, rfl, hok11, h11_0, h11_1, rfl⟩ := hk11
  refine sg (aF aJ rfl rfl (st9.get 1 rfl) (i := 0) rfl rfl (sg (aC eU rfl ?_)))
  have hk12 := hd
  obtain ⟨v12_0, v12_1, g12_0, g12_1, rfl, hok12, h12_0, h12_1, rfl⟩ := hk12
  refine sg (aF aJ rfl rfl (st9.get 0 rfl) (i := 0) rfl rfl (sg (bL rfl rfl (aE (aR rfl (fun h13 => ?_) (fun h13 => ?_))))))
  · have h13p := of_decide_eq_false (aS h13)
    refine wp_seq (aA (sg (aD (v := .bool false) rfl (aE (wp_ret ?_))))); repeat first|refine aH ?_|refine aI ?_
    refine aW Tryz.results114 rfl ?_
    exact ⟨congrArg (fun z => Ending.returned (.bool z)) (eM (fun e => by subst e; first | exact h13p rfl | exact absurd (aS h13) (by rw [dV rfl]; decide) | exact absurd (aS h13) (by simp))).symm, st9.bare⟩
  · have h13p := of_decide_eq_true (aX h13)
    refine wp_skip (wp_seq (wp_seq (aA (sg (aC cQ rfl (sg (aU (cs := [I x.plan.prio, I x.plan.most, I x.plan.wait, I x.plan.tasks, v11_0]) fY rfl rfl (st9.get 1 rfl) rfl rfl (sg (aC cQ rfl (sg (aU (cs := [I y.plan.prio, I y.plan.most, I y.plan.wait, I y.plan.tasks, v12_0]) fY rfl rfl (st9.get 0 rfl) rfl rfl (sg (aZ Tryz.func179 rfl rfl rfl ((eqPlan_n W7 (show Shape.C _ [I x.plan.prio, I x.plan.most, I x.plan.wait, I x.plan.tasks, v11_0] x.plan _ from ⟨_, _, rfl, (by first | exact True.intro | (simp only [Edge.ok, Plan.ok, Entry.ok, Task.ok, Run.ok, Yard.ok, Reply.ok, Deed.ok, Note.ok, Wait.ok, File.ok, Disk.ok, Engine.ok, WorldD.ok, ActD.ok, Hand.ok, Span.ok, Crew.ok, View.ok, I64] at *; omega)), (h11_0.below st9.below), rfl⟩) (show Shape.C _ [I y.plan.prio, I y.plan.most, I y.plan.wait, I y.plan.tasks, v12_0] y.plan _ from ⟨_, _, rfl, (by first | exact True.intro | (simp only [Edge.ok, Plan.ok, Entry.ok, Task.ok, Run.ok, Yard.ok, Reply.ok, Deed.ok, Note.ok, Wait.ok, File.ok, Disk.ok, Engine.ok, WorldD.ok, ActD.ok, Hand.ok, Span.ok, Crew.ok, View.ok, I64] at *; omega)), (h12_0.below st9.below), rfl⟩)).mono ?_)))))))))))))); rintro _ W14 ⟨rfl, hk15⟩; refine ⟨_, rfl, ?_⟩
    have st16 := St.call st9 hk15
    refine sg (bO rfl (aE (aR rfl (fun h18 => ?_) (fun h18 => ?_))))
    · refine wp_seq (aA (sg (aD (v := .bool false) rfl (aE (wp_ret ?_))))); repeat first|refine aH ?_|refine aI ?_
      refine aW Tryz.results114 rfl ?_
      exact ⟨congrArg (fun z => Ending.returned (.bool z)) (eM (fun e => by subst e; first | exact absurd (aS h18) (by rw [dV rfl]; decide) | exact absurd (aS h18) (by simp))).symm, st16.bare⟩
    · refine wp_skip (wp_seq (wp_seq (aA (sg (aC eO rfl (sg (aF aJ rfl rfl (st16.get 1 rfl) (i := 6) rfl rfl (sg (aC eO rfl (sg (aF aJ rfl rfl (st16.get 0 rfl) (i := 6) rfl rfl (sg (bL rfl rfl (aE (aR rfl (fun h19 => ?_) (fun h19 => ?_))))))))))))))))
      · have h19p := of_decide_eq_false (aS h19)
        refine wp_seq (aA (sg (aD (v := .bool false) rfl (aE (wp_ret ?_))))); repeat first|refine aH ?_|refine aI ?_
        refine aW Tryz.results114 rfl ?_
        exact ⟨congrArg (fun z => Ending.returned (.bool z)) (eM (fun e => by subst e; first | exact h19p rfl | exact absurd (aS h19) (by rw [dV rfl]; decide) | exact absurd (aS h19) (by simp))).symm, st16.bare⟩
      · have h19p := of_decide_eq_true (aX h19)
        refine wp_skip (wp_seq (wp_seq (aA (sg (aC bJ rfl (sg (aF bM rfl rfl (st16.get 1 rfl) (i := 7) rfl rfl (sg (aC bJ rfl (sg (aF bM rfl rfl (st16.get 0 rfl) (i := 7) rfl rfl (sg (aZ Tryz.func180 rfl rfl rfl ((eqTaskS_n W14 (h11_1.below st16.below) (h12_1.below st16.below)).mono ?_)))))))))))))); rintro _ W20 ⟨rfl, hk21⟩; refine ⟨_, rfl, ?_⟩
        have st22 := St.call st16 hk21
        refine sg (bO rfl (aE (aR rfl (fun h24 => ?_) (fun h24 => ?_))))
        · refine wp_seq (aA (sg (aD (v := .bool false) rfl (aE (wp_ret ?_))))); repeat first|refine aH ?_|refine aI ?_
          refine aW Tryz.results114 rfl ?_
          exact ⟨congrArg (fun z => Ending.returned (.bool z)) (eM (fun e => by subst e; first | exact absurd (aS h24) (by rw [dV rfl]; decide) | exact absurd (aS h24) (by simp))).symm, st22.bare⟩
        · refine wp_skip (wp_seq (aA (sg (aD (v := .bool true) rfl (aE (wp_ret ?_)))))); repeat first|refine aH ?_|refine aI ?_
          refine aW Tryz.results114 rfl ?_
          exact ⟨congrArg (fun z => Ending.returned (.bool z)) (dV (Run_ext h13p (eqB_iff.1 (aX h18)) h19p (eqB_iff.1 (aX h24)))).symm, st22.bare⟩
set_option maxHeartbeats 2000000 in
theorem eqRunS_n (w : World) {v u : Value} {xs ys : List Run} {fp gp : List Nat} (h : Sl w v xs fp) (g : Sl w u ys gp) :
    Calls Tryz.prog 56 #[v, u] w fun e w' => e = .returned (.bool (eqB xs ys)) ∧ St w w' [] := by
  have hcap := h.len_le
  have hcap2 := g.len_le
  refine cF Tryz.func56 rfl Tryz.ntmps56 (by decide) (wp_seq (aA (sg (aD (v := .bool false) rfl (aE (wp_seq (wp_seq (aA (sg (aB (v := v) rfl (sg (aV bV rfl h (sg (aB (v := u) rfl (sg (aV bV rfl g ?_))))))))))))))))
  refine sg (bL rfl rfl (aE (aR rfl (fun h1 => ?_) (fun h1 => ?_))))
  · have h1p := of_decide_eq_false (aS h1)
    refine wp_seq (aA (sg (aD (v := .bool false) rfl (aE (wp_ret ?_))))); repeat first|refine aH ?_|refine aI ?_
    refine aW Tryz.results56 rfl ?_
    exact ⟨congrArg (fun z => Ending.returned (.bool z)) (eM (fun e => h1p (by rw [e]))).symm, (St.start w).bare⟩
  · have h1p := of_decide_eq_true (aX h1)
    refine wp_skip (wp_seq (wp_seq (aA (sg (aD (v := I 0) rfl (aE (wp_block (bH (fun (m : Nat) (f : Nat → Value) (W : World) => ∃ (k : Nat), k ≤ xs.length ∧ xs.take k = ys.take k ∧ m = xs.length - k ∧ f 0 = v ∧ f 1 = u ∧ f 5 = I (k : Int) ∧ St w W ([])) (xs.length - 0) ?_ ?_))))))))
    · exact ⟨0, Nat.zero_le _, rfl, rfl, rfl, rfl, rfl, (St.start w)⟩
    intro m2 f3 W4 hJ5
    obtain ⟨k, hk, htk, rfl, hs7_0, hs7_1, hs7_5, st6⟩ := hJ5
    refine wp_seq (wp_seq (aA (sg (aB (v := I (k : Int)) hs7_5 (sg (aB (v := v) hs7_0 (sg (aV bV rfl h (sg (aY rfl rfl (aE (aR rfl (fun h8 => ?_) (fun h8 => ?_)))))))))))))
    · have h8p := of_decide_eq_true h8
      refine wp_skip (wp_seq (wp_block (wp_seq ?_)))
      have hi51fab : k < xs.length := (by omega)
      have hq_ := idx h (i := k) hi51fab
      obtain ⟨b9, o9, cs9, f9, hp9, hr9, hc9, hm9⟩ := hq_
      have hi28e79 : k < ys.length := (by omega)
      have hq_ := idx g (i := k) hi28e79
      obtain ⟨b10, o10, cs10, f10, hp10, hr10, hc10, hm10⟩ := hq_
      refine dI [Pl.is (v) (Sl.yl h), Pl.is (I (k : Int)), Pl.is (.pointer (some ⟨b9, o9, none⟩)), Pl.is (.agg cs9.toArray), Pl.is (u) (Sl.yl g), Pl.is (I (k : Int)), Pl.is (.pointer (some ⟨b10, o10, none⟩)), Pl.is (.agg cs10.toArray), Pl.bool (eqB (xs[k]'hi51fab) (ys[k]'hi28e79)), Pl.bool (!(eqB (xs[k]'hi51fab) (ys[k]'hi28e79)))] mix (by rfl) st6 ⟨(fun f W hst hbl hd hf => aB (v := v) ((hf 0 rfl).trans hs7_0) brq), (fun f W hst hbl hd hf => aB (v := I (k : Int)) ((hf 5 rfl).trans hs7_5) brq), (fun f W hst hbl hd hf => aG bV (hd 0 17 rfl rfl) hp9 (hd 1 18 rfl rfl) rfl brq), (fun f W hst hbl hd hf => bY cY rfl (hd 2 19 rfl rfl) hr9 hst.below (Shape.len hc9) brq), (fun f W hst hbl hd hf => aB (v := u) ((hf 1 rfl).trans hs7_1) brq), (fun f W hst hbl hd hf => aB (v := I (k : Int)) ((hf 5 rfl).trans hs7_5) brq), (fun f W hst hbl hd hf => aG bV (hd 4 21 rfl rfl) hp10 (hd 5 22 rfl rfl) rfl brq), (fun f W hst hbl hd hf => bY cY rfl (hd 6 23 rfl rfl) hr10 hst.below (Shape.len hc10) brq), (fun f W hst hbl hd hf => aZ Tryz.func114 rfl (hd 3 20 rfl rfl) (hd 7 24 rfl rfl) ((eqRun_n W (cA hc9 hst.below) (cA hc10 hst.below)).mono (by rintro e W2 ⟨rfl, hk⟩; exact ⟨_, rfl, hk.below, rfl⟩))), (fun f W hst hbl hd hf => bO (hd 8 25 rfl rfl) brq), trivial⟩ ?_
      intro f11 W12 st13 hb14 hv15 hf16
      refine aR (hv15 9 26 (by decide) rfl) (fun h17 => ?_) (fun h17 => ?_)
      · refine wp_seq (aA (sg (aD (v := .bool false) rfl (aE (wp_ret ?_))))); repeat first|refine aH ?_|refine aI ?_
        refine aW Tryz.results56 rfl ?_
        have hne : ¬ xs[k] = ys[k]'(by omega) := fun e => absurd (aS h17) (by rw [dV e]; decide)
        exact ⟨congrArg (fun z => Ending.returned (.bool z)) (eM (fun e => hne (by subst e; rfl))).symm, st13.bare⟩
      · refine wp_skip (aA (sg (aB (v := I (k : Int)) ((hf16 5 rfl).trans hs7_5) (sg (aP rfl rfl (by (simp only [I64] at *; omega)) (sg (aD (v := I ((k : Int) + 1)) rfl (aE ?_))))))))
        exact ⟨_, xs.length - (k + 1), (by omega), rfl, k + 1, (by omega), (iA (by omega) (by omega) htk (eqB_iff.1 (aX h17))), rfl, ((hf16 0 rfl).trans hs7_0), ((hf16 1 rfl).trans hs7_1), rfl, st13⟩
    · have h8p := of_decide_eq_false h8
      refine wp_exit (wp_seq (aA (sg (aD (v := .bool true) rfl (aE (wp_ret ?_)))))); repeat first|refine aH ?_|refine aI ?_
      refine aW Tryz.results56 rfl ?_
      obtain rfl : k = xs.length := by omega
      rw [List.take_length, List.take_of_length_le (by omega)] at htk
      exact ⟨congrArg (fun z => Ending.returned (.bool z)) (dV htk).symm, st6.bare⟩
set_option maxHeartbeats 2000000 in
theorem eqEntrySS_n (w : World) {v u : Value} {xs ys : List (List Entry)} {fp gp : List Nat} (h : Sl w v xs fp) (g : Sl w u ys gp) :
    Calls Tryz.prog 55 #[v, u] w fun e w' => e = .returned (.bool (eqB xs ys)) ∧ St w w' [] := by
  have hcap := h.len_le
  have hcap2 := g.len_le
  refine cF Tryz.func55 rfl Tryz.ntmps55 (by decide) (wp_seq (aA (sg (aD (v := .bool false) rfl (aE (wp_seq (wp_seq (aA (sg (aB (v := v) rfl (sg (aV cM rfl h (sg (aB (v := u) rfl (sg (aV cM rfl g ?_))))))))))))))))
  refine sg (bL rfl rfl (aE (aR rfl (fun h1 => ?_) (fun h1 => ?_))))
  · have h1p := of_decide_eq_false (aS h1)
    refine wp_seq (aA (sg (aD (v := .bool false) rfl (aE (wp_ret ?_))))); repeat first|refine aH ?_|refine aI ?_
    refine aW Tryz.results55 rfl ?_
    exact ⟨congrArg (fun z => Ending.returned (.bool z)) (eM (fun e => h1p (by rw [e]))).symm, (St.start w).bare⟩
  · have h1p := of_decide_eq_true (aX h1)
    refine wp_skip (wp_seq (wp_seq (aA (sg (aD (v := I 0) rfl (aE (wp_block (bH (fun (m : Nat) (f : Nat → Value) (W : World) => ∃ (k : Nat), k ≤ xs.length ∧ xs.take k = ys.take k ∧ m = xs.length - k ∧ f 0 = v ∧ f 1 = u ∧ f 5 = I (k : Int) ∧ St w W ([])) (xs.length - 0) ?_ ?_))))))))
    · exact ⟨0, Nat.zero_le _, rfl, rfl, rfl, rfl, rfl, (St.start w)⟩
    intro m2 f3 W4 hJ5
    obtain ⟨k, hk, htk, rfl, hs7_0, hs7_1, hs7_5, st6⟩ := hJ5
    refine wp_seq (wp_seq (aA (sg (aB (v := I (k : Int)) hs7_5 (sg (aB (v := v) hs7_0 (sg (aV cM rfl h (sg (aY rfl rfl (aE (aR rfl (fun h8 => ?_) (fun h8 => ?_)))))))))))))
    · have h8p := of_decide_eq_true h8
      refine wp_skip (wp_seq (wp_block (wp_seq ?_)))
      have hi51fab : k < xs.length := (by omega)
      have hq_ := idx h (i := k) hi51fab
      obtain ⟨b9, o9, cs9, f9, hp9, hr9, hc9, hm9⟩ := hq_
      have hk9 := hc9
      obtain ⟨v10, rfl, h11⟩ := hk9
      have hi28e79 : k < ys.length := (by omega)
      have hq_ := idx g (i := k) hi28e79
      obtain ⟨b12, o12, cs12, f12, hp12, hr12, hc12, hm12⟩ := hq_
      have hk12 := hc12
      obtain ⟨v13, rfl, h14⟩ := hk12
      refine dI [Pl.is (v) (Sl.yl h), Pl.is (I (k : Int)), Pl.is (.pointer (some ⟨b9, o9, none⟩)), Pl.is (v10) (Sl.yl h11), Pl.is (u) (Sl.yl g), Pl.is (I (k : Int)), Pl.is (.pointer (some ⟨b12, o12, none⟩)), Pl.is (v13) (Sl.yl h14), Pl.bool (eqB (xs[k]'hi51fab) (ys[k]'hi28e79)), Pl.bool (!(eqB (xs[k]'hi51fab) (ys[k]'hi28e79)))] mix (by rfl) st6 ⟨(fun f W hst hbl hd hf => aB (v := v) ((hf 0 rfl).trans hs7_0) brq), (fun f W hst hbl hd hf => aB (v := I (k : Int)) ((hf 5 rfl).trans hs7_5) brq), (fun f W hst hbl hd hf => aG cM (hd 0 17 rfl rfl) hp9 (hd 1 18 rfl rfl) rfl brq), (fun f W hst hbl hd hf => aK fD rfl (hd 2 19 rfl rfl) hr9 hst.below (i := 0) rfl rfl brq), (fun f W hst hbl hd hf => aB (v := u) ((hf 1 rfl).trans hs7_1) brq), (fun f W hst hbl hd hf => aB (v := I (k : Int)) ((hf 5 rfl).trans hs7_5) brq), (fun f W hst hbl hd hf => aG cM (hd 4 21 rfl rfl) hp12 (hd 5 22 rfl rfl) rfl brq), (fun f W hst hbl hd hf => aK fD rfl (hd 6 23 rfl rfl) hr12 hst.below (i := 0) rfl rfl brq), (fun f W hst hbl hd hf => aZ Tryz.func113 rfl (hd 3 20 rfl rfl) (hd 7 24 rfl rfl) ((eqEntryS_n W (h11.below hst.below) (h14.below hst.below)).mono (by rintro e W2 ⟨rfl, hk⟩; exact ⟨_, rfl, hk.below, rfl⟩))), (fun f W hst hbl hd hf => bO (hd 8 25 rfl rfl) brq), trivial⟩ ?_
      intro f15 W16 st17 hb18 hv19 hf20
      refine aR (hv19 9 26 (by decide) rfl) (fun h21 => ?_) (fun h21 => ?_)
      · refine wp_seq (aA (sg (aD (v := .bool false) rfl (aE (wp_ret ?_))))); repeat first|refine aH ?_|refine aI ?_
        refine aW Tryz.results55 rfl ?_
        have hne : ¬ xs[k] = ys[k]'(by omega) := fun e => absurd (aS h21) (by rw [dV e]; decide)
        exact ⟨congrArg (fun z => Ending.returned (.bool z)) (eM (fun e => hne (by subst e; rfl))).symm, st17.bare⟩
      · refine wp_skip (aA (sg (aB (v := I (k : Int)) ((hf20 5 rfl).trans hs7_5) (sg (aP rfl rfl (by (simp only [I64] at *; omega)) (sg (aD (v := I ((k : Int) + 1)) rfl (aE ?_))))))))
        exact ⟨_, xs.length - (k + 1), (by omega), rfl, k + 1, (by omega), (iA (by omega) (by omega) htk (eqB_iff.1 (aX h21))), rfl, ((hf20 0 rfl).trans hs7_0), ((hf20 1 rfl).trans hs7_1), rfl, st17⟩
    · have h8p := of_decide_eq_false h8
      refine wp_exit (wp_seq (aA (sg (aD (v := .bool true) rfl (aE (wp_ret ?_)))))); repeat first|refine aH ?_|refine aI ?_
      refine aW Tryz.results55 rfl ?_
      obtain rfl : k = xs.length := by omega
      rw [List.take_length, List.take_of_length_le (by omega)] at htk
      exact ⟨congrArg (fun z => Ending.returned (.bool z)) (dV htk).symm, st6.bare⟩
theorem Yard_ext {x y : Yard} (h0 : x.now = y.now) (h1 : x.seq = y.seq) (h2 : x.shelf = y.shelf) (h3 : x.runs = y.runs) : x = y := by
  cases x; cases y; simp only at *; subst_vars; rfl
set_option maxHeartbeats 2000000 in
theorem uQ (w : World) {x y : Yard} {cs ds : List Value} {fp gp : List Nat} (hc : Shape.C w cs x fp) (hd : Shape.C w ds y gp) :
    Calls Tryz.prog 19 #[.agg cs.toArray, .agg ds.toArray] w fun e w' => e = .returned (.bool (eqB x y)) ∧ St w w' [] := by
  refine cF Tryz.func19 rfl Tryz.ntmps19 (by decide) (wp_seq (aA (sg (aQ (cs := cs) rfl (St.start w) ?_)))); intro b1 W2 hb3 st4
  refine sg (aQ (cs := ds) rfl st4 ?_); intro b6 W7 hb8 st9
  refine sg (aD (v := .bool false) rfl (aE (wp_seq (wp_seq (aA (sg (aC fE rfl ?_)))))))
  have hk11 := hc
  obtain ⟨v11_0, v11_1, g11_0, g11_1, rfl, hok11, h11_0, h11_1, rfl⟩ := hk11
  refine sg (aF aJ rfl rfl (st9.get 1 rfl) (i := 0) rfl rfl (sg (aC fE rfl ?_)))
  have hk12 := hd
  obtain ⟨v12_0, v12_1, g12_0, g12_1, rfl, hok12, h12_0, h12_1, rfl⟩ := hk12
  refine sg (aF aJ rfl rfl (st9.get 0 rfl) (i := 0) rfl rfl (sg (bL rfl rfl (aE (aR rfl (fun h13 => ?_) (fun h13 => ?_))))))
  · have h13p := of_decide_eq_false (aS h13)
    refine wp_seq (aA (sg (aD (v := .bool false) rfl (aE (wp_ret ?_))))); repeat first|refine aH ?_|refine aI ?_
    refine aW Tryz.results19 rfl ?_
    exact ⟨congrArg (fun z => Ending.returned (.bool z)) (eM (fun e => by subst e; first | exact h13p rfl | exact absurd (aS h13) (by rw [dV rfl]; decide) | exact absurd (aS h13) (by simp))).symm, st9.bare⟩
  · have h13p := of_decide_eq_true (aX h13)
    refine wp_skip (wp_seq (wp_seq (aA (sg (aC eN rfl (sg (aF aJ rfl rfl (st9.get 1 rfl) (i := 1) rfl rfl (sg (aC eN rfl (sg (aF aJ rfl rfl (st9.get 0 rfl) (i := 1) rfl rfl (sg (bL rfl rfl (aE (aR rfl (fun h14 => ?_) (fun h14 => ?_))))))))))))))))
    · have h14p := of_decide_eq_false (aS h14)
      refine wp_seq (aA (sg (aD (v := .bool false) rfl (aE (wp_ret ?_))))); repeat first|refine aH ?_|refine aI ?_
      refine aW Tryz.results19 rfl ?_
      exact ⟨congrArg (fun z => Ending.returned (.bool z)) (eM (fun e => by subst e; first | exact h14p rfl | exact absurd (aS h14) (by rw [dV rfl]; decide) | exact absurd (aS h14) (by simp))).symm, st9.bare⟩
    · have h14p := of_decide_eq_true (aX h14)
      refine wp_skip (wp_seq (wp_seq (aA (sg (aC dG rfl (sg (aF dE rfl rfl (st9.get 1 rfl) (i := 2) rfl rfl (sg (aC dG rfl (sg (aF dE rfl rfl (st9.get 0 rfl) (i := 2) rfl rfl (sg (aZ Tryz.func55 rfl rfl rfl ((eqEntrySS_n W7 (h11_0.below st9.below) (h12_0.below st9.below)).mono ?_)))))))))))))); rintro _ W15 ⟨rfl, hk16⟩; refine ⟨_, rfl, ?_⟩
      have st17 := St.call st9 hk16
      refine sg (bO rfl (aE (aR rfl (fun h19 => ?_) (fun h19 => ?_))))
      · refine wp_seq (aA (sg (aD (v := .bool false) rfl (aE (wp_ret ?_))))); repeat first|refine aH ?_|refine aI ?_
        refine aW Tryz.results19 rfl ?_
        exact ⟨congrArg (fun z => Ending.returned (.bool z)) (eM (fun e => by subst e; first | exact absurd (aS h19) (by rw [dV rfl]; decide) | exact absurd (aS h19) (by simp))).symm, st17.bare⟩
      · refine wp_skip (wp_seq (wp_seq (aA (sg (aC bW rfl (sg (aF cV rfl rfl (st17.get 1 rfl) (i := 3) rfl rfl (sg (aC bW rfl (sg (aF cV rfl rfl (st17.get 0 rfl) (i := 3) rfl rfl (sg (aZ Tryz.func56 rfl rfl rfl ((eqRunS_n W15 (h11_1.below st17.below) (h12_1.below st17.below)).mono ?_)))))))))))))); rintro _ W20 ⟨rfl, hk21⟩; refine ⟨_, rfl, ?_⟩
        have st22 := St.call st17 hk21
        refine sg (bO rfl (aE (aR rfl (fun h24 => ?_) (fun h24 => ?_))))
        · refine wp_seq (aA (sg (aD (v := .bool false) rfl (aE (wp_ret ?_))))); repeat first|refine aH ?_|refine aI ?_
          refine aW Tryz.results19 rfl ?_
          exact ⟨congrArg (fun z => Ending.returned (.bool z)) (eM (fun e => by subst e; first | exact absurd (aS h24) (by rw [dV rfl]; decide) | exact absurd (aS h24) (by simp))).symm, st22.bare⟩
        · refine wp_skip (wp_seq (aA (sg (aD (v := .bool true) rfl (aE (wp_ret ?_)))))); repeat first|refine aH ?_|refine aI ?_
          refine aW Tryz.results19 rfl ?_
          exact ⟨congrArg (fun z => Ending.returned (.bool z)) (dV (Yard_ext h13p h14p (eqB_iff.1 (aX h19)) (eqB_iff.1 (aX h24)))).symm, st22.bare⟩
theorem Reply_ext {x y : Reply} (h0 : x.code = y.code) (h1 : x.run = y.run) (h2 : x.task = y.task) (h3 : x.try_ = y.try_) : x = y := by
  cases x; cases y; simp only at *; subst_vars; rfl
set_option maxHeartbeats 2000000 in
theorem eqReply_n (w : World) {x y : Reply} {cs ds : List Value} {fp gp : List Nat} (hc : Shape.C w cs x fp) (hd : Shape.C w ds y gp) :
    Calls Tryz.prog 101 #[.agg cs.toArray, .agg ds.toArray] w fun e w' => e = .returned (.bool (eqB x y)) ∧ St w w' [] := by
  refine cF Tryz.func101 rfl Tryz.ntmps101 (by decide) (wp_seq (aA (sg (aQ (cs := cs) rfl (St.start w) ?_)))); intro b1 W2 hb3 st4
  refine sg (aQ (cs := ds) rfl st4 ?_); intro b6 W7 hb8 st9
  refine sg (aD (v := .bool false) rfl (aE (wp_seq (wp_seq (aA (sg (aC lL rfl ?_)))))))
  have hk11 := hc
  obtain ⟨he11, rfl, hok11⟩ := hk11
  have he11 : _ = [I x.code, I x.run, I x.task, I x.try_] := he11
  subst he11
  refine sg (aF aJ rfl rfl (st9.get 1 rfl) (i := 0) rfl rfl (sg (aC lL rfl ?_)))
  have hk12 := hd
  obtain ⟨he12, rfl, hok12⟩ := hk12
  have he12 : _ = [I y.code, I y.run, I y.task, I y.try_] := he12
  subst he12
  refine sg (aF aJ rfl rfl (st9.get 0 rfl) (i := 0) rfl rfl (sg (bL rfl rfl (aE (aR rfl (fun h13 => ?_) (fun h13 => ?_))))))
  · have h13p := of_decide_eq_false (aS h13)
    refine wp_seq (aA (sg (aD (v := .bool false) rfl (aE (wp_ret ?_))))); repeat first|refine aH ?_|refine aI ?_
    refine aW Tryz.results101 rfl ?_
    exact ⟨congrArg (fun z => Ending.returned (.bool z)) (eM (fun e => by subst e; first | exact h13p rfl | exact absurd (aS h13) (by rw [dV rfl]; decide) | exact absurd (aS h13) (by simp))).symm, st9.bare⟩
  · have h13p := of_decide_eq_true (aX h13)
    refine wp_skip (wp_seq (wp_seq (aA (sg (aC lK rfl (sg (aF aJ rfl rfl (st9.get 1 rfl) (i := 1) rfl rfl (sg (aC lK rfl (sg (aF aJ rfl rfl (st9.get 0 rfl) (i := 1) rfl rfl (sg (bL rfl rfl (aE (aR rfl (fun h14 => ?_) (fun h14 => ?_))))))))))))))))
    · have h14p := of_decide_eq_false (aS h14)
      refine wp_seq (aA (sg (aD (v := .bool false) rfl (aE (wp_ret ?_))))); repeat first|refine aH ?_|refine aI ?_
      refine aW Tryz.results101 rfl ?_
      exact ⟨congrArg (fun z => Ending.returned (.bool z)) (eM (fun e => by subst e; first | exact h14p rfl | exact absurd (aS h14) (by rw [dV rfl]; decide) | exact absurd (aS h14) (by simp))).symm, st9.bare⟩
    · have h14p := of_decide_eq_true (aX h14)
      refine wp_skip (wp_seq (wp_seq (aA (sg (aC lJ rfl (sg (aF aJ rfl rfl (st9.get 1 rfl) (i := 2) rfl rfl (sg (aC lJ rfl (sg (aF aJ rfl rfl (st9.get 0 rfl) (i := 2) rfl rfl (sg (bL rfl rfl (aE (aR rfl (fun h15 => ?_) (fun h15 => ?_))))))))))))))))
      · have h15p := of_decide_eq_false (aS h15)
        refine wp_seq (aA (sg (aD (v := .bool false) rfl (aE (wp_ret ?_))))); repeat first|refine aH ?_|refine aI ?_
        refine aW Tryz.results101 rfl ?_
        exact ⟨congrArg (fun z => Ending.returned (.bool z)) (eM (fun e => by subst e; first | exact h15p rfl | exact absurd (aS h15) (by rw [dV rfl]; decide) | exact absurd (aS h15) (by simp))).symm, st9.bare⟩
      · have h15p := of_decide_eq_true (aX h15)
        refine wp_skip (wp_seq (wp_seq (aA (sg (aC lI rfl (sg (aF aJ rfl rfl (st9.get 1 rfl) (i := 3) rfl rfl (sg (aC lI rfl (sg (aF aJ rfl rfl (st9.get 0 rfl) (i := 3) rfl rfl (sg (bL rfl rfl (aE (aR rfl (fun h16 => ?_) (fun h16 => ?_))))))))))))))))
        · have h16p := of_decide_eq_false (aS h16)
          refine wp_seq (aA (sg (aD (v := .bool false) rfl (aE (wp_ret ?_))))); repeat first|refine aH ?_|refine aI ?_
          refine aW Tryz.results101 rfl ?_
          exact ⟨congrArg (fun z => Ending.returned (.bool z)) (eM (fun e => by subst e; first | exact h16p rfl | exact absurd (aS h16) (by rw [dV rfl]; decide) | exact absurd (aS h16) (by simp))).symm, st9.bare⟩
        · have h16p := of_decide_eq_true (aX h16)
          refine wp_skip (wp_seq (aA (sg (aD (v := .bool true) rfl (aE (wp_ret ?_)))))); repeat first|refine aH ?_|refine aI ?_
          refine aW Tryz.results101 rfl ?_
          exact ⟨congrArg (fun z => Ending.returned (.bool z)) (dV (Reply_ext h13p h14p h15p h16p)).symm, st9.bare⟩
set_option maxHeartbeats 2000000 in
theorem eqReplyS_n (w : World) {v u : Value} {xs ys : List Reply} {fp gp : List Nat} (h : Sl w v xs fp) (g : Sl w u ys gp) :
    Calls Tryz.prog 48 #[v, u] w fun e w' => e = .returned (.bool (eqB xs ys)) ∧ St w w' [] := by
  have hcap := h.len_le
  have hcap2 := g.len_le
  refine cF Tryz.func48 rfl Tryz.ntmps48 (by decide) (wp_seq (aA (sg (aD (v := .bool false) rfl (aE (wp_seq (wp_seq (aA (sg (aB (v := v) rfl (sg (aV fC rfl h (sg (aB (v := u) rfl (sg (aV fC rfl g ?_))))))))))))))))
  refine sg (bL rfl rfl (aE (aR rfl (fun h1 => ?_) (fun h1 => ?_))))
  · have h1p := of_decide_eq_false (aS h1)
    refine wp_seq (aA (sg (aD (v := .bool false) rfl (aE (wp_ret ?_))))); repeat first|refine aH ?_|refine aI ?_
    refine aW Tryz.results48 rfl ?_
    exact ⟨congrArg (fun z => Ending.returned (.bool z)) (eM (fun e => h1p (by rw [e]))).symm, (St.start w).bare⟩
  · have h1p := of_decide_eq_true (aX h1)
    refine wp_skip (wp_seq (wp_seq (aA (sg (aD (v := I 0) rfl (aE (wp_block (bH (fun (m : Nat) (f : Nat → Value) (W : World) => ∃ (k : Nat), k ≤ xs.length ∧ xs.take k = ys.take k ∧ m = xs.length - k ∧ f 0 = v ∧ f 1 = u ∧ f 5 = I (k : Int) ∧ St w W ([])) (xs.length - 0) ?_ ?_))))))))
    · exact ⟨0, Nat.zero_le _, rfl, rfl, rfl, rfl, rfl, (St.start w)⟩
    intro m2 f3 W4 hJ5
    obtain ⟨k, hk, htk, rfl, hs7_0, hs7_1, hs7_5, st6⟩ := hJ5
    refine wp_seq (wp_seq (aA (sg (aB (v := I (k : Int)) hs7_5 (sg (aB (v := v) hs7_0 (sg (aV fC rfl h (sg (aY rfl rfl (aE (aR rfl (fun h8 => ?_) (fun h8 => ?_)))))))))))))
    · have h8p := of_decide_eq_true h8
      refine wp_skip (wp_seq (wp_block (wp_seq ?_)))
      have hi51fab : k < xs.length := (by omega)
      have hq_ := idx h (i := k) hi51fab
      obtain ⟨b9, o9, cs9, f9, hp9, hr9, hc9, hm9⟩ := hq_
      have hk10 := hc9
      obtain ⟨he10, rfl, hok10⟩ := hk10
      have he10 : _ = [I (xs[k]'hi51fab).code, I (xs[k]'hi51fab).run, I (xs[k]'hi51fab).task, I (xs[k]'hi51fab).try_] := he10
      subst he10
      have hi28e79 : k < ys.length := (by omega)
      have hq_ := idx g (i := k) hi28e79
      obtain ⟨b11, o11, cs11, f11, hp11, hr11, hc11, hm11⟩ := hq_
      have hk12 := hc11
      obtain ⟨he12, rfl, hok12⟩ := hk12
      have he12 : _ = [I (ys[k]'hi28e79).code, I (ys[k]'hi28e79).run, I (ys[k]'hi28e79).task, I (ys[k]'hi28e79).try_] := he12
      subst he12
      refine dI [Pl.is (v) (Sl.yl h), Pl.is (I (k : Int)), Pl.is (.pointer (some ⟨b9, o9, none⟩)), Pl.is (.agg #[I (xs[k]'hi51fab).code, I (xs[k]'hi51fab).run, I (xs[k]'hi51fab).task, I (xs[k]'hi51fab).try_]), Pl.is (u) (Sl.yl g), Pl.is (I (k : Int)), Pl.is (.pointer (some ⟨b11, o11, none⟩)), Pl.is (.agg #[I (ys[k]'hi28e79).code, I (ys[k]'hi28e79).run, I (ys[k]'hi28e79).task, I (ys[k]'hi28e79).try_]), Pl.bool (eqB (xs[k]'hi51fab) (ys[k]'hi28e79)), Pl.bool (!(eqB (xs[k]'hi51fab) (ys[k]'hi28e79)))] mix (by rfl) st6 ⟨(fun f W hst hbl hd hf => aB (v := v) ((hf 0 rfl).trans hs7_0) brq), (fun f W hst hbl hd hf => aB (v := I (k : Int)) ((hf 5 rfl).trans hs7_5) brq), (fun f W hst hbl hd hf => aG fC (hd 0 17 rfl rfl) hp9 (hd 1 18 rfl rfl) rfl brq), (fun f W hst hbl hd hf => cS (cs := [I (xs[k]'hi51fab).code, I (xs[k]'hi51fab).run, I (xs[k]'hi51fab).task, I (xs[k]'hi51fab).try_]) uM rfl (hd 2 19 rfl rfl) hr9 hst.below (i := 0) rfl rfl rfl brq), (fun f W hst hbl hd hf => aB (v := u) ((hf 1 rfl).trans hs7_1) brq), (fun f W hst hbl hd hf => aB (v := I (k : Int)) ((hf 5 rfl).trans hs7_5) brq), (fun f W hst hbl hd hf => aG fC (hd 4 21 rfl rfl) hp11 (hd 5 22 rfl rfl) rfl brq), (fun f W hst hbl hd hf => cS (cs := [I (ys[k]'hi28e79).code, I (ys[k]'hi28e79).run, I (ys[k]'hi28e79).task, I (ys[k]'hi28e79).try_]) uM rfl (hd 6 23 rfl rfl) hr11 hst.below (i := 0) rfl rfl rfl brq), (fun f W hst hbl hd hf => aZ Tryz.func101 rfl (hd 3 20 rfl rfl) (hd 7 24 rfl rfl) ((eqReply_n W hc9 hc11).mono (by rintro e W2 ⟨rfl, hk⟩; exact ⟨_, rfl, hk.below, rfl⟩))), (fun f W hst hbl hd hf => bO (hd 8 25 rfl rfl) brq), trivial⟩ ?_
      intro f13 W14 st15 hb16 hv17 hf18
      refine aR (hv17 9 26 (by decide) rfl) (fun h19 => ?_) (fun h19 => ?_)
      · refine wp_seq (aA (sg (aD (v := .bool false) rfl (aE (wp_ret ?_))))); repeat first|refine aH ?_|refine aI ?_
        refine aW Tryz.results48 rfl ?_
        have hne : ¬ xs[k] = ys[k]'(by omega) := fun e => absurd (aS h19) (by rw [dV e]; decide)
        exact ⟨congrArg (fun z => Ending.returned (.bool z)) (eM (fun e => hne (by subst e; rfl))).symm, st15.bare⟩
      · refine wp_skip (aA (sg (aB (v := I (k : Int)) ((hf18 5 rfl).trans hs7_5) (sg (aP rfl rfl (by (simp only [I64] at *; omega)) (sg (aD (v := I ((k : Int) + 1)) rfl (aE ?_))))))))
        exact ⟨_, xs.length - (k + 1), (by omega), rfl, k + 1, (by omega), (iA (by omega) (by omega) htk (eqB_iff.1 (aX h19))), rfl, ((hf18 0 rfl).trans hs7_0), ((hf18 1 rfl).trans hs7_1), rfl, st15⟩
    · have h8p := of_decide_eq_false h8
      refine wp_exit (wp_seq (aA (sg (aD (v := .bool true) rfl (aE (wp_ret ?_)))))); repeat first|refine aH ?_|refine aI ?_
      refine aW Tryz.results48 rfl ?_
      obtain rfl : k = xs.length := by omega
      rw [List.take_length, List.take_of_length_le (by omega)] at htk
      exact ⟨congrArg (fun z => Ending.returned (.bool z)) (dV htk).symm, st6.bare⟩
theorem Crew_ext {x y : Crew} (h0 : x.yard = y.yard) (h1 : x.holds = y.holds) (h2 : x.turns = y.turns) (h3 : x.did = y.did) : x = y := by
  cases x; cases y; simp only at *; subst_vars; rfl
set_option maxHeartbeats 2000000 in
theorem rP (w : World) {x y : Crew} {cs ds : List Value} {fp gp : List Nat} (hc : Shape.C w cs x fp) (hd : Shape.C w ds y gp) :
    Calls Tryz.prog 14 #[.agg cs.toArray, .agg ds.toArray] w fun e w' => e = .returned (.bool (eqB x y)) ∧ St w w' [] := by
  refine cF Tryz.func14 rfl Tryz.ntmps14 (by decide) (wp_seq (aA (sg (aQ (cs := cs) rfl (St.start w) ?_)))); intro b1 W2 hb3 st4
  refine sg (aQ (cs := ds) rfl st4 ?_); intro b6 W7 hb8 st9
  refine sg (aD (v := .bool false) rfl (aE (wp_seq (wp_seq (aA (sg (aC nE rfl ?_)))))))
  have hk11 := hc
  obtain ⟨v11_0, v11_1, v11_2, g11_0, g11_1, g11_2, rfl, hok11, h11_0, h11_1, h11_2, rfl⟩ := hk11
  refine sg (aU (cs := [I x.yard.now, I x.yard.seq, v11_0, v11_1]) cC rfl rfl (st9.get 1 rfl) rfl rfl (sg (aC nE rfl ?_)))
  have hk12 := hd
  obtain ⟨v12_0, v12_1, v12_2, g12_0, g12_1, g12_2, rfl, hok12, h12_0, h12_1, h12_2, rfl⟩ := hk12
  refine sg (aU (cs := [I y.yard.now, I y.yard.seq, v12_0, v12_1]) cC rfl rfl (st9.get 0 rfl) rfl rfl (sg (aZ Tryz.func19 rfl rfl rfl ((uQ W7 (show Shape.C _ [I x.yard.now, I x.yard.seq, v11_0, v11_1] x.yard _ from ⟨_, _, _, _, rfl, (by first | exact True.intro | (simp only [Edge.ok, Plan.ok, Entry.ok, Task.ok, Run.ok, Yard.ok, Reply.ok, Deed.ok, Note.ok, Wait.ok, File.ok, Disk.ok, Engine.ok, WorldD.ok, ActD.ok, Hand.ok, Span.ok, Crew.ok, View.ok, I64] at *; omega)), (h11_0.below st9.below), (h11_1.below st9.below), rfl⟩) (show Shape.C _ [I y.yard.now, I y.yard.seq, v12_0, v12_1] y.yard _ from ⟨_, _, _, _, rfl, (by first | exact True.intro | (simp only [Edge.ok, Plan.ok, Entry.ok, Task.ok, Run.ok, Yard.ok, Reply.ok, Deed.ok, Note.ok, Wait.ok, File.ok, Disk.ok, Engine.ok, WorldD.ok, ActD.ok, Hand.ok, Span.ok, Crew.ok, View.ok, I64] at *; omega)), (h12_0.below st9.below), (h12_1.below st9.below), rfl⟩)).mono ?_)))); rintro _ W13 ⟨rfl, hk14⟩; refine ⟨_, rfl, ?_⟩
  have st15 := St.call st9 hk14
  refine sg (bO rfl (aE (aR rfl (fun h17 => ?_) (fun h17 => ?_))))
  · refine wp_seq (aA (sg (aD (v := .bool false) rfl (aE (wp_ret ?_))))); repeat first|refine aH ?_|refine aI ?_
    refine aW Tryz.results14 rfl ?_
    exact ⟨congrArg (fun z => Ending.returned (.bool z)) (eM (fun e => by subst e; first | exact absurd (aS h17) (by rw [dV rfl]; decide) | exact absurd (aS h17) (by simp))).symm, st15.bare⟩
  · refine wp_skip (wp_seq (wp_seq (aA (sg (aC nD rfl (sg (aF nA rfl rfl (st15.get 1 rfl) (i := 4) rfl rfl (sg (aC nD rfl (sg (aF nA rfl rfl (st15.get 0 rfl) (i := 4) rfl rfl (sg (aZ Tryz.func48 rfl rfl rfl ((eqReplyS_n W13 (h11_2.below st15.below) (h12_2.below st15.below)).mono ?_)))))))))))))); rintro _ W18 ⟨rfl, hk19⟩; refine ⟨_, rfl, ?_⟩
    have st20 := St.call st15 hk19
    refine sg (bO rfl (aE (aR rfl (fun h22 => ?_) (fun h22 => ?_))))
    · refine wp_seq (aA (sg (aD (v := .bool false) rfl (aE (wp_ret ?_))))); repeat first|refine aH ?_|refine aI ?_
      refine aW Tryz.results14 rfl ?_
      exact ⟨congrArg (fun z => Ending.returned (.bool z)) (eM (fun e => by subst e; first | exact absurd (aS h22) (by rw [dV rfl]; decide) | exact absurd (aS h22) (by simp))).symm, st20.bare⟩
    · refine wp_skip (wp_seq (wp_seq (aA (sg (aC tD rfl (sg (aF aJ rfl rfl (st20.get 1 rfl) (i := 5) rfl rfl (sg (aC tD rfl (sg (aF aJ rfl rfl (st20.get 0 rfl) (i := 5) rfl rfl (sg (bL rfl rfl (aE (aR rfl (fun h23 => ?_) (fun h23 => ?_))))))))))))))))
      · have h23p := of_decide_eq_false (aS h23)
        refine wp_seq (aA (sg (aD (v := .bool false) rfl (aE (wp_ret ?_))))); repeat first|refine aH ?_|refine aI ?_
        refine aW Tryz.results14 rfl ?_
        exact ⟨congrArg (fun z => Ending.returned (.bool z)) (eM (fun e => by subst e; first | exact h23p rfl | exact absurd (aS h23) (by rw [dV rfl]; decide) | exact absurd (aS h23) (by simp))).symm, st20.bare⟩
      · have h23p := of_decide_eq_true (aX h23)
        refine wp_skip (wp_seq (wp_seq (aA (sg (aC tC rfl (sg (aF aJ rfl rfl (st20.get 1 rfl) (i := 6) rfl rfl (sg (aC tC rfl (sg (aF aJ rfl rfl (st20.get 0 rfl) (i := 6) rfl rfl (sg (bL rfl rfl (aE (aR rfl (fun h24 => ?_) (fun h24 => ?_))))))))))))))))
        · have h24p := of_decide_eq_false (aS h24)
          refine wp_seq (aA (sg (aD (v := .bool false) rfl (aE (wp_ret ?_))))); repeat first|refine aH ?_|refine aI ?_
          refine aW Tryz.results14 rfl ?_
          exact ⟨congrArg (fun z => Ending.returned (.bool z)) (eM (fun e => by subst e; first | exact h24p rfl | exact absurd (aS h24) (by rw [dV rfl]; decide) | exact absurd (aS h24) (by simp))).symm, st20.bare⟩
        · have h24p := of_decide_eq_true (aX h24)
          refine wp_skip (wp_seq (aA (sg (aD (v := .bool true) rfl (aE (wp_ret ?_)))))); repeat first|refine aH ?_|refine aI ?_
          refine aW Tryz.results14 rfl ?_
          exact ⟨congrArg (fun z => Ending.returned (.bool z)) (dV (Crew_ext (eqB_iff.1 (aX h17)) (eqB_iff.1 (aX h22)) h23p h24p)).symm, st20.bare⟩
end Go.Proofs.YtchnllpegfbleaaGreat
namespace Go.Proofs.YtchnllpegfbleaaGreat
set_option linter.unusedSimpArgs false
set_option linter.unusedVariables false
open Go.RowKit

def Way (es : List Edge) : Int → List Int → Prop
  | _, [] => True
  | a, v :: vs => (⟨a, v⟩ : Edge) ∈ es ∧ Way es v vs
def Rch (es : List Edge) (a b : Int) : Prop := ∃ vs, Way es a (vs ++ [b])
theorem Way.append {es : List Edge} : ∀ {vs ws : List Int} {a : Int}, Way es a (vs ++ ws) ↔ Way es a vs ∧ Way es ((a :: vs).getLast (by simp)) ws
  | [], ws, a => by simp [Way]
  | v :: vs, ws, a => by
    simp only [List.cons_append, Way]
    rw [Way.append (vs := vs)]
    simp [List.getLast_cons, and_assoc]
theorem sP (a : Int) (vs : List Int) (b : Int) : (a :: (vs ++ [b])).getLast (List.cons_ne_nil _ _) = b := by
  rw [List.getLast_cons (by simp)]; simp
theorem Rch.one {es : List Edge} {a b : Int} (h : (⟨a, b⟩ : Edge) ∈ es) : Rch es a b := ⟨[], h, trivial⟩
theorem Rch.cons {es : List Edge} {a b c : Int} (h : (⟨a, b⟩ : Edge) ∈ es) (k : Rch es b c) : Rch es a c := by
  obtain ⟨vs, hv⟩ := k
  exact ⟨b :: vs, h, hv⟩
theorem Rch.cases {es : List Edge} {a c : Int} (h : Rch es a c) : (⟨a, c⟩ : Edge) ∈ es ∨ ∃ b, (⟨a, b⟩ : Edge) ∈ es ∧ Rch es b c := by
  obtain ⟨vs, hv⟩ := h
  cases vs with
  | nil => exact .inl hv.1
  | cons b vs => exact .inr ⟨b, hv.1, vs, hv.2⟩
theorem Rch.snoc {es : List Edge} {a b c : Int} (h : Rch es a b) (k : (⟨b, c⟩ : Edge) ∈ es) : Rch es a c := by
  obtain ⟨vs, hv⟩ := h
  refine ⟨vs ++ [b], ?_⟩
  rw [Way.append]
  refine ⟨hv, ?_⟩
  rw [sP]
  exact ⟨k, trivial⟩

/-! ### A way that meets no task twice -/
theorem mI : ∀ (n : Nat) (l : List Int), l.Nodup → (∀ x ∈ l, 0 ≤ x ∧ x < n) → l.length ≤ n
  | 0, l, _, h => by
    cases l with
    | nil => simp
    | cons x l => have := h x (by simp); omega
  | n + 1, l, hn, h => by
    have h1 := mI n (l.erase (n : Int)) (hn.erase _) (fun x hx => by
      have hm := List.mem_of_mem_erase hx
      have hne : x ≠ (n : Int) := fun e => by
        subst e
        exact absurd hx hn.not_mem_erase
      have := h x hm
      omega)
    have h2 : l.length ≤ (l.erase (n : Int)).length + 1 := by
      rw [List.length_erase]
      split <;> omega
    omega
theorem sK : ∀ {l : List Int}, ¬ l.Nodup → ∃ x l1 l2 l3, l = l1 ++ x :: l2 ++ x :: l3
  | [], h => by simp at h
  | y :: l, h => by
    by_cases hm : y ∈ l
    · obtain ⟨l2, l3, rfl⟩ := List.append_of_mem hm
      exact ⟨y, [], l2, l3, rfl⟩
    · have : ¬ l.Nodup := fun hn => h (List.nodup_cons.2 ⟨hm, hn⟩)
      obtain ⟨x, l1, l2, l3, rfl⟩ := sK this
      exact ⟨x, y :: l1, l2, l3, rfl⟩
theorem Way.mem {es : List Edge} : ∀ {vs : List Int} {a x : Int}, Way es a vs → x ∈ vs → ∃ e ∈ es, e.to_ = x
  | v :: vs, a, x, h, hx => by
    rcases List.mem_cons.1 hx with rfl | hx
    · exact ⟨_, h.1, rfl⟩
    · exact Way.mem h.2 hx
theorem Rch.short {es : List Edge} {n : Nat} (hr : ∀ e ∈ es, 0 ≤ e.to_ ∧ e.to_ < n) {a b : Int} (h : Rch es a b) : ∃ vs, Way es a (vs ++ [b]) ∧ (vs ++ [b]).length ≤ n := by
  obtain ⟨vs, hv⟩ := h
  induction hk : vs.length using Nat.strongRecOn generalizing vs with
  | _ k ih =>
    subst hk
    by_cases hn : (vs ++ [b]).Nodup
    · exact ⟨vs, hv, mI n _ hn (fun x hx => by obtain ⟨e, he, rfl⟩ := Way.mem hv hx; exact hr e he)⟩
    · obtain ⟨x, l1, l2, l3, hl⟩ := sK hn
      have hv2 := hv
      rw [hl, Way.append] at hv2
      have hw := hv2.1
      rw [show l1 ++ x :: l2 = l1 ++ [x] ++ l2 by simp, Way.append] at hw
      have hnew : Way es a (l1 ++ [x] ++ l3) := by
        rw [Way.append]
        refine ⟨hw.1, ?_⟩
        have h3 := hv2.2
        rw [sP]
        have e1 : (a :: (l1 ++ x :: l2)).getLast (List.cons_ne_nil _ _) = (a :: (l1 ++ x :: l2)).getLast (List.cons_ne_nil _ _) := rfl
        exact h3.2
      -- the same end
      have hlast : ∃ ws, l1 ++ [x] ++ l3 = ws ++ [b] ∧ ws.length < vs.length := by
        have hlen := congrArg List.length hl
        simp only [List.length_append, List.length_cons, List.length_nil] at hlen
        by_cases h3 : l3 = []
        · subst h3
          have e2 : x = b := by
            have := (List.append_inj' hl rfl).2
            simpa using this.symm
          subst e2
          exact ⟨l1, by simp, by omega⟩
        · obtain ⟨m, y, rfl⟩ : ∃ m y, l3 = m ++ [y] := ⟨l3.dropLast, l3.getLast h3, (List.dropLast_concat_getLast h3).symm⟩
          have e2 : y = b := by
            have hl2 : vs ++ [b] = (l1 ++ x :: l2 ++ x :: m) ++ [y] := by rw [hl]; simp
            have := (List.append_inj' hl2 rfl).2
            simpa using this.symm
          subst e2
          refine ⟨l1 ++ [x] ++ m, by simp, ?_⟩
          simp at hlen ⊢
          omega
      obtain ⟨ws, he, hlt⟩ := hlast
      rw [he] at hnew
      exact ih ws.length hlt ws hnew rfl

/-! ### Sets of tasks as numbers, relaxed edge by edge -/
def jW (m : List Nat) (a : Int) (b : Int) : Bool := (m.getD a.toNat 0).testBit b.toNat
def iF (m : List Nat) (e : Edge) : List Nat := m.set e.from_.toNat (m.getD e.from_.toNat 0 ||| (1 <<< e.to_.toNat ||| m.getD e.to_.toNat 0))
def hQ (es : List Edge) (m : List Nat) : List Nat := es.foldl iF m
def eH (es : List Edge) (m : List Nat) : Nat → List Nat
  | 0 => m
  | k + 1 => hQ es (eH es m k)
def EdgesIn (n : Nat) (es : List Edge) : Prop := ∀ e ∈ es, (0 ≤ e.from_ ∧ e.from_ < n) ∧ (0 ≤ e.to_ ∧ e.to_ < n)
theorem lB (m : List Nat) (e : Edge) : (iF m e).length = m.length := by simp [iF]
theorem pN : ∀ (es : List Edge) (m : List Nat), (hQ es m).length = m.length
  | [], m => rfl
  | e :: es, m => by show (hQ es (iF m e)).length = _; rw [pN es, lB]
theorem iW (es : List Edge) (m : List Nat) : ∀ k, (eH es m k).length = m.length
  | 0 => rfl
  | k + 1 => by rw [eH, pN, iW es m k]
theorem lO {m : List Nat} {e : Edge} {a b : Int} (ha : 0 ≤ a ∧ a < m.length) (hb : 0 ≤ b) (he : 0 ≤ e.from_ ∧ 0 ≤ e.to_) : jW (iF m e) a b = (jW m a b || (decide (a = e.from_) && (decide (b = e.to_) || jW m e.to_ b))) := by
  unfold jW iF
  by_cases h : a = e.from_
  · subst h
    have hl : e.from_.toNat < m.length := by omega
    rw [List.getD_eq_getElem?_getD, List.getElem?_set_self hl]
    simp only [Option.getD_some, decide_true, Bool.true_and, Nat.testBit_or]
    congr 1
    congr 1
    rw [Nat.one_shiftLeft, Nat.testBit_two_pow]
    by_cases h2 : b = e.to_
    · subst h2; simp
    · have : ¬ e.to_.toNat = b.toNat := by omega
      simp [h2, this]
  · have hne : ¬ e.from_.toNat = a.toNat := by omega
    rw [List.getD_eq_getElem?_getD, List.getElem?_set_ne hne]
    simp [h, List.getD_eq_getElem?_getD]
theorem qS {n : Nat} : ∀ {es : List Edge} {m : List Nat} {a b : Int}, EdgesIn n es → m.length = n → (0 ≤ a ∧ a < n) → 0 ≤ b → jW m a b = true → jW (hQ es m) a b = true
  | [], m, a, b, _, _, _, _, h => h
  | e :: es, m, a, b, hi, hl, ha, hb, h => by
    refine qS (es := es) (m := iF m e) (fun x hx => hi x (by simp [hx])) (by rw [lB, hl]) ha hb ?_
    have := hi e (by simp)
    rw [lO (by omega) hb (by omega), h]; rfl
theorem nP {n : Nat} : ∀ {es : List Edge} {m : List Nat} {e : Edge} {b : Int}, EdgesIn n es → m.length = n → e ∈ es → 0 ≤ b → (b = e.to_ ∨ jW m e.to_ b = true) → jW (hQ es m) e.from_ b = true
  | e0 :: es, m, e, b, hi, hl, he, hb, h => by
    have h0 := hi e0 (by simp)
    have hlen : (iF m e0).length = n := by rw [lB, hl]
    have hi' : EdgesIn n es := fun x hx => hi x (by simp [hx])
    rcases List.mem_cons.1 he with rfl | he
    · refine qS (es := es) hi' hlen h0.1 hb ?_
      rw [lO (by omega) hb (by omega)]
      rcases h with h | h
      · simp [h]
      · simp [h]
    · refine nP (es := es) (m := iF m e0) hi' hlen he hb ?_
      rcases h with h | h
      · exact .inl h
      · refine .inr ?_
        have h1 := hi e (by simp [he])
        rw [lO (by omega) hb (by omega), h]; rfl
theorem pZ {n : Nat} {all : List Edge} : ∀ {es : List Edge} {m : List Nat}, EdgesIn n es → m.length = n → (∀ e ∈ es, e ∈ all) → (∀ a b : Int, 0 ≤ a → a < n → 0 ≤ b → jW m a b = true → Rch all a b) → ∀ a b : Int, 0 ≤ a → a < n → 0 ≤ b → jW (hQ es m) a b = true → Rch all a b
  | [], m, _, _, _, h => h
  | e :: es, m, hi, hl, hs, h => by
    refine pZ (es := es) (m := iF m e) (fun x hx => hi x (by simp [hx])) (by rw [lB, hl]) (fun x hx => hs x (by simp [hx])) ?_
    intro a b ha ha2 hb hbit
    have h0 := hi e (by simp)
    rw [lO (by omega) hb (by omega)] at hbit
    simp only [Bool.or_eq_true, Bool.and_eq_true, decide_eq_true_eq] at hbit
    rcases hbit with hbit | ⟨rfl, hbit⟩
    · exact h a b ha ha2 hb hbit
    · have hem : (⟨e.from_, e.to_⟩ : Edge) ∈ all := hs e (by simp)
      rcases hbit with rfl | hbit
      · exact .one hem
      · exact .cons hem (h e.to_ b h0.2.1 h0.2.2 hb hbit)
theorem qU {n : Nat} {es : List Edge} {m : List Nat} (hi : EdgesIn n es) (hl : m.length = n) : ∀ (k : Nat) {a b : Int} {vs : List Int}, Way es a (vs ++ [b]) → (vs ++ [b]).length ≤ k → jW (eH es m k) a b = true
  | 0, a, b, vs, _, h => by simp at h
  | k + 1, a, b, [], hw, h => by
    rw [eH]
    have hb := hi _ hw.1
    exact nP (e := ⟨a, b⟩) hi (by rw [iW, hl]) hw.1 hb.2.1 (.inl rfl)
  | k + 1, a, b, v :: vs, hw, h => by
    rw [eH]
    have h1 := qU hi hl k (vs := vs) hw.2 (by simpa using h)
    have hb : 0 ≤ b := by
      have : b ∈ vs ++ [b] := by simp
      obtain ⟨e, he, rfl⟩ := Way.mem hw.2 this
      exact (hi e he).2.1
    exact nP (e := ⟨a, v⟩) hi (by rw [iW, hl]) hw.1 hb (.inr h1)
theorem waits_iff {n : Nat} {es : List Edge} (hi : EdgesIn n es) {a b : Int} (ha : 0 ≤ a ∧ a < n) (hb : 0 ≤ b) : jW (eH es (List.replicate n 0) n) a b = true ↔ Rch es a b := by
  constructor
  · have key : ∀ k, ∀ a b : Int, 0 ≤ a → a < n → 0 ≤ b → jW (eH es (List.replicate n 0) k) a b = true → Rch es a b := by
      intro k
      induction k with
      | zero =>
        intro a b _ _ _ h
        simp only [eH, jW, List.getD_eq_getElem?_getD, List.getElem?_replicate] at h
        split at h <;> simp at h
      | succ k ih => exact pZ hi (by rw [iW]; simp) (fun e he => he) ih
    exact key n a b ha.1 ha.2 hb
  · intro h
    obtain ⟨vs, hv, hlen⟩ := h.short (n := n) (fun e he => (hi e he).2)
    exact qU hi (by simp) n hv hlen
end Go.Proofs.YtchnllpegfbleaaGreat
namespace Go.Proofs.YtchnllpegfbleaaGreat
set_option linter.unusedSimpArgs false
set_option linter.unusedVariables false
open Go.RowKit

structure BInv (es : List Edge) (n : Nat) (t : Int) (q : List Int) (out : List Bool) (h i : Nat) : Prop where
  head : q[0]? = some t
  len : out.length = n
  mark : ∀ x : Int, 0 ≤ x → x < n → (out.getD x.toNat false = true ↔ x ∈ q.tail)
  nodup : q.tail.Nodup
  sound : ∀ x ∈ q.tail, Rch es t x
  range : ∀ x ∈ q.tail, 0 ≤ x ∧ x < n
  done : ∀ (k : Nat) (x : Int), k < h → q[k]? = some x → ∀ e ∈ es, e.from_ = x → e.to_ ∈ q.tail
  part : ∀ x : Int, q[h]? = some x → ∀ e ∈ es.take i, e.from_ = x → e.to_ ∈ q.tail
section
variable {es : List Edge} {n : Nat} {t : Int} {q : List Int} {out : List Bool} {h i : Nat}
theorem BInv.start : BInv es n t [t] (List.replicate n false) 0 0 :=
  ⟨rfl, by simp, fun x _ _ => by
    simp only [List.getD_eq_getElem?_getD, List.getElem?_replicate, List.tail_cons, List.not_mem_nil, iff_false]
    split <;> simp, by simp, by simp, by simp, fun k x hk => absurd hk (Nat.not_lt_zero k), by simp⟩
theorem BInv.len_le (b : BInv es n t q out h i) : q.length ≤ n + 1 := by
  have := mI n q.tail b.nodup b.range
  rw [List.length_tail] at this
  omega
theorem mem_of_tail {q : List Int} {x : Int} (h : x ∈ q.tail) : x ∈ q := List.mem_of_mem_tail h
theorem BInv.at (b : BInv es n t q out h i) {k : Nat} {x : Int} (hk : q[k]? = some x) : x = t ∨ x ∈ q.tail := by
  cases k with
  | zero => rw [b.head] at hk; exact .inl (Option.some.inj hk).symm
  | succ k => exact .inr (List.mem_of_getElem? (by rw [List.getElem?_tail]; exact hk))
theorem BInv.skip (b : BInv es n t q out h i) (hin : EdgesIn n es) {e : Edge} (hi : es[i]? = some e) {x : Int} (hx : q[h]? = some x) (hne : ¬ (e.from_ = x ∧ out.getD e.to_.toNat false = false)) : BInv es n t q out h (i + 1) := by
  refine ⟨b.head, b.len, b.mark, b.nodup, b.sound, b.range, b.done, ?_⟩
  intro y hy e' he' hf
  rw [hx] at hy
  obtain rfl := Option.some.inj hy
  obtain ⟨hil, rfl⟩ := List.getElem?_eq_some_iff.1 hi
  rw [List.take_succ_eq_append_getElem hil] at he'
  rcases List.mem_append.1 he' with h1 | h1
  · exact b.part x hx e' h1 hf
  · simp at h1
    subst h1
    have hr := hin es[i] (List.getElem_mem hil)
    refine (b.mark es[i].to_ hr.2.1 hr.2.2).1 ?_
    cases ho : out.getD es[i].to_.toNat false with
    | true => rfl
    | false => exact absurd ⟨hf, ho⟩ hne
theorem BInv.add (b : BInv es n t q out h i) (hin : EdgesIn n es) {e : Edge} (hi : es[i]? = some e) {x : Int} (hx : q[h]? = some x) (hf : e.from_ = x) (ho : out.getD e.to_.toNat false = false) : BInv es n t (q ++ [e.to_]) (out.set e.to_.toNat true) h (i + 1) := by
  obtain ⟨hil, rfl⟩ := List.getElem?_eq_some_iff.1 hi
  have hem : es[i] ∈ es := List.getElem_mem hil
  have hr := hin es[i] hem
  have hq0 : q ≠ [] := fun e => by have := b.head; rw [e] at this; simp at this
  have htail : (q ++ [es[i].to_]).tail = q.tail ++ [es[i].to_] := by
    cases q with
    | nil => exact absurd rfl hq0
    | cons a q => rfl
  have hnot : es[i].to_ ∉ q.tail := fun hm => by rw [(b.mark _ hr.2.1 hr.2.2).2 hm] at ho; cases ho
  have hsound : Rch es t es[i].to_ := by
    have hxe : (⟨x, es[i].to_⟩ : Edge) ∈ es := by rw [← hf]; exact hem
    rcases b.at hx with h1 | h1
    · rw [← h1]; exact .one hxe
    · exact (b.sound x h1).snoc hxe
  refine ⟨?_, by rw [List.length_set]; exact b.len, ?_, ?_, ?_, ?_, ?_, ?_⟩
  · rw [List.getElem?_append_left (List.length_pos_iff.2 hq0)]; exact b.head
  · intro y h0 h1
    rw [htail, List.mem_append, List.mem_singleton]
    by_cases hy : y = es[i].to_
    · subst hy
      rw [List.getD_eq_getElem?_getD, List.getElem?_set_self (by rw [b.len]; omega)]
      simp
    · have hne : ¬ es[i].to_.toNat = y.toNat := by omega
      rw [List.getD_eq_getElem?_getD, List.getElem?_set_ne hne, ← List.getD_eq_getElem?_getD, b.mark y h0 h1]
      simp [hy]
  · rw [htail, List.nodup_append]
    exact ⟨b.nodup, by simp, fun a ha c hc e => by simp at hc; subst hc e; exact hnot ha⟩
  · intro y hy
    rw [htail] at hy
    rcases List.mem_append.1 hy with hy | hy
    · exact b.sound y hy
    · simp at hy; subst hy; exact hsound
  · intro y hy
    rw [htail] at hy
    rcases List.mem_append.1 hy with hy | hy
    · exact b.range y hy
    · simp at hy; subst hy; exact hr.2
  · intro k y hk hy e' he' hf'
    have hkq : k < q.length := by
      have := (List.getElem?_eq_some_iff.1 hx).1; omega
    rw [List.getElem?_append_left hkq] at hy
    rw [htail]
    exact List.mem_append_left _ (b.done k y hk hy e' he' hf')
  · intro y hy e' he' hf'
    have hhq := (List.getElem?_eq_some_iff.1 hx).1
    rw [List.getElem?_append_left hhq, hx] at hy
    obtain rfl := Option.some.inj hy
    rw [htail]
    rw [List.take_succ_eq_append_getElem hil] at he'
    rcases List.mem_append.1 he' with h1 | h1
    · exact List.mem_append_left _ (b.part x hx e' h1 hf')
    · simp at h1; subst h1; simp
theorem BInv.next (b : BInv es n t q out h i) (hi : i = es.length) : BInv es n t q out (h + 1) 0 := by
  subst hi
  refine ⟨b.head, b.len, b.mark, b.nodup, b.sound, b.range, ?_, by simp⟩
  intro k x hk hx e he hf
  by_cases hkh : k = h
  · subst hkh
    exact b.part x hx e (by rw [List.take_length]; exact he) hf
  · exact b.done k x (by omega) hx e he hf
theorem BInv.fin (b : BInv es n t q out h i) (hh : h = q.length) {x : Int} (h0 : 0 ≤ x) (h1 : x < n) : out.getD x.toNat false = true ↔ Rch es t x := by
  rw [b.mark x h0 h1]
  constructor
  · exact b.sound x
  · rintro ⟨vs, hv⟩
    have key : ∀ (vs : List Int) (a : Int), Way es a (vs ++ [x]) → a ∈ q → x ∈ q.tail := by
      intro vs
      induction vs with
      | nil =>
        intro a hw ha
        obtain ⟨k, hk⟩ := List.mem_iff_getElem?.1 ha
        exact b.done k a (by have := (List.getElem?_eq_some_iff.1 hk).1; omega) hk ⟨a, x⟩ hw.1 rfl
      | cons v vs ih =>
        intro a hw ha
        obtain ⟨k, hk⟩ := List.mem_iff_getElem?.1 ha
        have := b.done k a (by have := (List.getElem?_eq_some_iff.1 hk).1; omega) hk ⟨a, v⟩ hw.1 rfl
        exact ih v hw.2 (mem_of_tail this)
    exact key vs t hv (List.mem_of_getElem? b.head)
end
noncomputable def lH (es : List Edge) (n : Nat) (t : Int) : List Bool := (List.range n).map (fun x : Nat => pB (Rch es t (x : Int)))
theorem BInv.all {es : List Edge} {n : Nat} {t : Int} {q : List Int} {out : List Bool} {h i : Nat} (b : BInv es n t q out h i) (hh : h = q.length) : out = lH es n t := by
  apply List.ext_getElem?
  intro j
  unfold lH
  by_cases hj : j < n
  · have hl : j < out.length := by rw [b.len]; exact hj
    have hf := b.fin hh (x := (j : Int)) (by omega) (by omega)
    rw [Int.toNat_natCast, List.getD_eq_getElem?_getD, List.getElem?_eq_getElem hl] at hf
    simp only [Option.getD_some] at hf
    rw [List.getElem?_eq_getElem hl, List.getElem?_map, List.getElem?_range hj]
    simp only [Option.map_some]
    congr 1
    rw [Bool.eq_iff_iff, hf, pB_iff]
  · rw [List.getElem?_eq_none (by rw [b.len]; omega), List.getElem?_eq_none (by simp; omega)]
end Go.Proofs.YtchnllpegfbleaaGreat
namespace Go.Proofs.YtchnllpegfbleaaGreat
set_option linter.unusedSimpArgs false
set_option linter.unusedVariables false
open Go.RowKit Go.Lib
instance : Shape UInt8 := Shape.flat 1 (fun b => [.int .u8 (b.toNat : Int)]) (fun _ => True) (fun _ => rfl) (fun _ v hv => by simp at hv; subst hv; rfl)
instance : Agg UInt8 := ⟨false⟩
section
variable {P : Program} {n : Nat} {f : Nat → Value} {W w : World} {Q : Exit → Act → World → Prop} {K : Value → World → Prop} {d : Option Tmp} {ty : TypeId} {pos : String} {af : Array Go.Edge} {g : Option (Nat × Bool)} {x y : Operand} {t e t' : TypeId}
theorem rH (hd : P.underlying t = some (.int .u8)) : P.intKind t = .u8 := by simp [Program.intKind, hd]
theorem oF {a : Int} (hs : (P.underlying t).isSome = true) (hd : P.underlying t' = some (.int .u8)) (hx : ev n f x = I a) (h : 0 ≤ a ∧ a < 256) (k : K (.int .u8 a) W) : Stp P n ⟨d, .convert t t' x, ty, pos, af, g⟩ f W Q K :=
  Stp.run (v := .int .u8 a) (by
    have hw : IntKind.u8.wrap a = a := by simp [IntKind.wrap, IntKind.bits, IntKind.signed]; omega
    have hd' : P.underlying t' = some (.int (P.intKind t')) := by rw [rH hd]; exact hd
    have := run_convert_int (P := P) W t t' .i64 a hs hd'
    rw [rH hd, hw] at this
    simp only [execOp, hx, Sem.run_bind, this, Result.andThen_ok]; rfl) k
theorem conv_none (hs : P.underlying t = some (.slice e)) (he : P.underlying e = some (.int .u8)) (hd : P.underlying t' = some .string) (p : Option Addr) (c : Nat) (W : World) : (convert t t' (.slice p 0 c)).run P W = .ok (.string ⟨#[]⟩) W := by
  rw [run_convert_bytes_string W t t' e _ 0 c hs he hd]
  cases p
  · simp [Conv.bytesToString, loadCells]; rfl
  · simp [Conv.bytesToString, loadCells]; rfl
theorem bytes_of {v : Value} {bs : List UInt8} {fp : List Nat} (h : Sl W v bs fp) (hne : bs ≠ []) : ∃ b o cap, v = .slice (some ⟨b, o, none⟩) bs.length cap ∧ Bytes W b o ⟨bs.toArray⟩ := by
  obtain ⟨ao, cap, rfl, h1, h2, h3⟩ := h.openk 1 rfl
  obtain ⟨b, o, rfl, hb, hm, he⟩ := h3 (List.length_pos_iff.2 hne)
  refine ⟨b, o, cap, rfl, ?_⟩
  intro i hi
  have hi' : i < bs.length := by simpa [ByteArray.size] using hi
  obtain ⟨cs, f1, hr, ⟨hc, _, _⟩, _⟩ := he i hi'
  subst hc
  have := hr 0 _ rfl
  rw [Nat.mul_one, Nat.add_zero] at this
  rw [this]
  rfl
theorem sD {bs : List UInt8} {v : Value} {fp : List Nat} (hs : P.underlying t = some (.slice e)) (he : P.underlying e = some (.int .u8)) (hd : P.underlying t' = some .string) (hx : ev n f x = v) (h : Sl w v bs fp) (hb : Below w.heap.size w W) (k : K (.string ⟨bs.toArray⟩) W) : Stp P n ⟨d, .convert t t' x, ty, pos, af, g⟩ f W Q K := by
  have h' := h.below hb
  by_cases hne : bs = []
  · subst hne
    obtain ⟨ao, cap, rfl, _⟩ := h'
    refine Stp.run (v := .string ⟨#[]⟩) ?_ k
    have := conv_none (P := P) hs he hd ao cap W
    simp only [execOp, hx, Sem.run_bind, List.length_nil, this, Result.andThen_ok]
    rfl
  · obtain ⟨b, o, cap, rfl, hB⟩ := bytes_of h' hne
    refine Stp.run (v := .string ⟨bs.toArray⟩) ?_ k
    have hsz : (⟨bs.toArray⟩ : ByteArray).size = bs.length := by simp [ByteArray.size]
    have := run_convert_whole (P := P) W t e t' hs he hd b o ⟨bs.toArray⟩ hB cap
    rw [hsz] at this
    simp only [execOp, hx, Sem.run_bind, this, Result.andThen_ok]
    rfl
theorem sV {a b : Int} (h1 : 0 ≤ a) (hb : a ≤ b) (h2 : b ≤ 9223372036854775807) : IntKind.i64.wrap a = a := jV ⟨by omega, by omega⟩
theorem mT {ty2 : TypeId} {a b : Int} (hx : ev n f x = I a) (hy : ev n f y = I b) (h13 : 0 ≤ a ∧ a ≤ 9223372036854775807) (h2 : 0 < b) (k : K (I (a % b)) W) : Stp P n ⟨d, .binOp .rem t x y ty2, ty, pos, af, g⟩ f W Q K :=
  Stp.run (v := I (a % b)) (by
    obtain ⟨h1, h3⟩ := h13
    have e1 : a.tmod b = a % b := Int.tmod_eq_emod_of_nonneg h1
    have e2 : 0 ≤ a % b := Int.emod_nonneg a (by omega)
    have e3 : a % b ≤ a := by
      rcases Int.lt_or_le a b with h | h
      · rw [Int.emod_eq_of_lt h1 h]; omega
      · have := Int.emod_lt_of_pos a h2; omega
    have e4 : IntKind.i64.wrap (a % b) = a % b := sV e2 e3 h3
    have hb : ¬ b = 0 := by omega
    simp [execOp, hx, hy, go_sem, Op.intArith, hb, e1, e4]) k
theorem qG {ty2 : TypeId} {a b : Int} (hx : ev n f x = I a) (hy : ev n f y = I b) (h13 : 0 ≤ a ∧ a ≤ 9223372036854775807) (h2 : 0 < b) (k : K (I (a / b)) W) : Stp P n ⟨d, .binOp .quo t x y ty2, ty, pos, af, g⟩ f W Q K :=
  Stp.run (v := I (a / b)) (by
    obtain ⟨h1, h3⟩ := h13
    have e1 : a.tdiv b = a / b := Int.tdiv_eq_ediv_of_nonneg h1
    have e2 : 0 ≤ a / b := Int.ediv_nonneg h1 (by omega)
    have e3 : a / b ≤ a := Int.ediv_le_self _ h1
    have e4 : IntKind.i64.wrap (a / b) = a / b := sV e2 e3 h3
    have hb : ¬ b = 0 := by omega
    simp [execOp, hx, hy, go_sem, Op.intArith, hb, e1, e4]) k
end
theorem iD : ApOk Tryz.prog 234 5 UInt8 1 := tT Tryz.underlying234 (by kernel_rfl) (by decide)
end Go.Proofs.YtchnllpegfbleaaGreat
namespace Go.Proofs.YtchnllpegfbleaaGreat
set_option linter.unusedSimpArgs false
set_option linter.unusedVariables false
open Go.RowKit Go.Lib
section
variable {P : Program} {n : Nat} {f : Nat → Value} {W : World} {Q : Exit → Act → World → Prop} {K : Value → World → Prop} {d : Option Tmp} {ty : TypeId} {pos : String} {af : Array Go.Edge} {g : Option (Nat × Bool)} {x y : Operand} {t t' : TypeId}
theorem iO (a : Nat) (h : a < 2 ^ 32) : (BitVec.ofInt 64 (a : Int)).toNat = a := by
  simp [BitVec.toNat_ofInt]
  omega
theorem stp_or {a b : Nat} (hx : ev n f x = I (a : Int)) (hy : ev n f y = I (b : Int)) (ha : a < 2 ^ 32) (hb : b < 2 ^ 32) (k : K (I ((a ||| b : Nat) : Int)) W) : Stp P n ⟨d, .binOp .or t x y t', ty, pos, af, g⟩ f W Q K :=
  Stp.run (v := I ((a ||| b : Nat) : Int)) (by
    have h := Nat.or_lt_two_pow ha hb
    have hw : IntKind.i64.wrap ((BitVec.ofInt 64 (a : Int) ||| BitVec.ofInt 64 (b : Int)).toNat : Int) = ((a ||| b : Nat) : Int) := by
      rw [BitVec.toNat_or, iO a ha, iO b hb]
      exact jV ⟨by omega, by omega⟩
    simp [execOp, hx, hy, go_sem]
    exact hw) k
theorem stp_and {a b : Nat} (hx : ev n f x = I (a : Int)) (hy : ev n f y = I (b : Int)) (ha : a < 2 ^ 32) (hb : b < 2 ^ 32) (k : K (I ((a &&& b : Nat) : Int)) W) : Stp P n ⟨d, .binOp .and t x y t', ty, pos, af, g⟩ f W Q K :=
  Stp.run (v := I ((a &&& b : Nat) : Int)) (by
    have h : a &&& b < 2 ^ 32 := Nat.and_lt_two_pow _ hb
    have hw : IntKind.i64.wrap ((BitVec.ofInt 64 (a : Int) &&& BitVec.ofInt 64 (b : Int)).toNat : Int) = ((a &&& b : Nat) : Int) := by
      rw [BitVec.toNat_and, iO a ha, iO b hb]
      exact jV ⟨by omega, by omega⟩
    simp [execOp, hx, hy, go_sem]
    exact hw) k
end
end Go.Proofs.YtchnllpegfbleaaGreat
namespace Go.Proofs.YtchnllpegfbleaaGreat
open Go.RowKit Go.Lib
section
variable {P : Program} {n : Nat} {f : Nat → Value} {W : World} {Q : Exit → Act → World → Prop} {K : Value → World → Prop} {d : Option Tmp} {ty : TypeId} {pos : String} {af : Array Go.Edge} {g : Option (Nat × Bool)} {x y : Operand} {t t' : TypeId}
theorem pow_fin : ∀ s : Fin 60, IntKind.i64.wrap (1 * 2 ^ min s.val 64) = ((1 <<< s.val : Nat) : Int) := by decide +kernel
theorem stp_shl1 {s : Nat} (hx : ev n f x = I 1) (hy : ev n f y = I (s : Int)) (hs : s < 60) (k : K (I ((1 <<< s : Nat) : Int)) W) : Stp P n ⟨d, .binOp .shl t x y t', ty, pos, af, g⟩ f W Q K :=
  Stp.run (v := I ((1 <<< s : Nat) : Int)) (by
    have h := pow_fin ⟨s, hs⟩
    have hn : ¬ ((s : Int) < 0) := by omega
    simp only [execOp, hx, hy, Sem.run_bind, binOp, Op.shift, hn, if_false, Int.toNat_natCast, Sem.run_pure, Result.andThen_ok]
    simp only [show IntKind.i64.bits = 64 from rfl, h]
    rfl) k
theorem stp_shr {a s : Nat} (hx : ev n f x = I (a : Int)) (hy : ev n f y = I (s : Int)) (hs : s < 60) (k : K (I ((a >>> s : Nat) : Int)) W) : Stp P n ⟨d, .binOp .shr t x y t', ty, pos, af, g⟩ f W Q K :=
  Stp.run (v := I ((a >>> s : Nat) : Int)) (by
    have hn : ¬ ((s : Int) < 0) := by omega
    have hm : min s 64 = s := by omega
    have h : Int.fdiv (a : Int) (2 ^ s) = ((a >>> s : Nat) : Int) := by
      rw [Nat.shiftRight_eq_div_pow, Int.fdiv_eq_ediv_of_nonneg _ (by exact Int.le_of_lt (Int.pow_pos (by omega)))]
      push_cast; rfl
    simp only [execOp, hx, hy, Sem.run_bind, binOp, Op.shift, hn, if_false, Int.toNat_natCast, Sem.run_pure, Result.andThen_ok]
    simp only [show IntKind.i64.bits = 64 from rfl, hm, h]
    rfl) k
end
end Go.Proofs.YtchnllpegfbleaaGreat
namespace Go.Proofs.YtchnllpegfbleaaGreat
set_option linter.unusedSimpArgs false
set_option linter.unusedVariables false
open Go.RowKit Go.Lib
def orI (a b : Int) : Int := ((a.toNat ||| b.toNat : Nat) : Int)
def wU (a b : Int) : Int := ((a.toNat &&& b.toNat : Nat) : Int)
def rZ (s : Int) : Int := ((1 <<< s.toNat : Nat) : Int)
def vF (a s : Int) : Int := ((a.toNat >>> s.toNat : Nat) : Int)
section
variable {P : Program} {n : Nat} {f : Nat → Value} {W : World} {Q : Exit → Act → World → Prop} {K : Value → World → Prop} {d : Option Tmp} {ty : TypeId} {pos : String} {af : Array Go.Edge} {g : Option (Nat × Bool)} {x y : Operand} {t t' : TypeId}
theorem oT {x : Operand} {a : Int} (h : ev n f x = I a) (h0 : 0 ≤ a) : ev n f x = I ((a.toNat : Nat) : Int) := by rw [Int.toNat_of_nonneg h0]; exact h
theorem vO {a b : Int} (hx : ev n f x = I a) (hy : ev n f y = I b) (ha : 0 ≤ a ∧ a < 4294967296) (hb : 0 ≤ b ∧ b < 4294967296) (k : K (I (orI a b)) W) : Stp P n ⟨d, .binOp .or t x y t', ty, pos, af, g⟩ f W Q K :=
  stp_or (oT hx ha.1) (oT hy hb.1) (by omega) (by omega) k
theorem stp_andI {a b : Int} (hx : ev n f x = I a) (hy : ev n f y = I b) (ha : 0 ≤ a ∧ a < 4294967296) (hb : 0 ≤ b ∧ b < 4294967296) (k : K (I (wU a b)) W) : Stp P n ⟨d, .binOp .and t x y t', ty, pos, af, g⟩ f W Q K :=
  stp_and (oT hx ha.1) (oT hy hb.1) (by omega) (by omega) k
theorem stp_shlI {s : Int} (hx : ev n f x = I 1) (hy : ev n f y = I s) (hs : 0 ≤ s ∧ s < 60) (k : K (I (rZ s)) W) : Stp P n ⟨d, .binOp .shl t x y t', ty, pos, af, g⟩ f W Q K :=
  stp_shl1 hx (oT hy hs.1) (by omega) k
theorem stp_shrI {a s : Int} (hx : ev n f x = I a) (hy : ev n f y = I s) (ha : 0 ≤ a) (hs : 0 ≤ s ∧ s < 60) (k : K (I (vF a s)) W) : Stp P n ⟨d, .binOp .shr t x y t', ty, pos, af, g⟩ f W Q K :=
  stp_shr (oT hx ha) (oT hy hs.1) (by omega) k
end
theorem tM {a b : Int} (ha : 0 ≤ a ∧ a < 4294967296) (hb : 0 ≤ b ∧ b < 4294967296) : 0 ≤ orI a b ∧ orI a b < 4294967296 := by
  have h := Nat.or_lt_two_pow (n := 32) (x := a.toNat) (y := b.toNat) (by omega) (by omega)
  unfold orI
  generalize a.toNat ||| b.toNat = m at h ⊢
  omega
theorem qN {s : Int} (hs : 0 ≤ s ∧ s < 32) : 0 ≤ rZ s ∧ rZ s < 4294967296 := by
  have h : 1 <<< s.toNat < 2 ^ 32 := by
    rw [Nat.one_shiftLeft]
    exact Nat.pow_lt_pow_right (by omega) (by omega)
  unfold rZ
  generalize 1 <<< s.toNat = m at h ⊢
  omega
theorem shrI_rng {a s : Int} (ha : 0 ≤ a ∧ a < 4294967296) : 0 ≤ vF a s ∧ vF a s < 4294967296 := by
  have h := Nat.shiftRight_le a.toNat s.toNat
  unfold vF
  generalize a.toNat >>> s.toNat = m at h ⊢
  omega
theorem andI_one (a s : Int) : wU (vF a s) 1 = if a.toNat.testBit s.toNat then 1 else 0 := by
  unfold wU vF
  simp only [Int.toNat_natCast, Int.toNat_one]
  rw [Nat.testBit, Nat.and_comm 1, ]
  have h := Nat.and_one_is_mod (a.toNat >>> s.toNat)
  rw [h]
  have : a.toNat >>> s.toNat % 2 = 0 ∨ a.toNat >>> s.toNat % 2 = 1 := by omega
  rcases this with h | h <;> simp [h]
/-! ### Lists of such numbers -/
def eP (ms : List Nat) : List Int := ms.map (fun m : Nat => (m : Int))
theorem tG (ms : List Nat) : (eP ms).length = ms.length := by simp [eP]
theorem jB {ms : List Nat} (hB : ∀ m ∈ ms, m < 4294967296) (i : Nat) (h : i < (eP ms).length) : 0 ≤ (eP ms)[i] ∧ (eP ms)[i] < 4294967296 := by
  simp only [eP, List.getElem_map]
  have := hB (ms[i]'(by simpa [eP] using h)) (List.getElem_mem _)
  omega
theorem rS {ms : List Nat} {i : Nat} (h : i < (eP ms).length) : (eP ms)[i].toNat = ms.getD i 0 := by
  have h' : i < ms.length := by simpa [eP] using h
  simp [eP, List.getD, h']
theorem castL_set (ms : List Nat) (i : Nat) (m : Nat) : (eP ms).set i (m : Int) = eP (ms.set i m) := by
  simp [eP, List.map_set]
theorem castL_rep (n : Nat) : List.replicate n (0 : Int) = eP (List.replicate n 0) := by simp [eP]
end Go.Proofs.YtchnllpegfbleaaGreat
namespace Go.Proofs.YtchnllpegfbleaaGreat
set_option linter.unusedSimpArgs false
set_option linter.unusedVariables false
open Go.RowKit

def dQ (p : Plan) : Prop := ¬ (1 ≤ p.tasks ∧ p.tasks ≤ 12) ∨ 30 < p.edges.length ∨ ¬ (0 ≤ p.prio ∧ p.prio ≤ 9) ∨ ¬ (1 ≤ p.most ∧ p.most ≤ 5) ∨ ¬ (1 ≤ p.wait ∧ p.wait ≤ 20)
def jQ (p : Plan) : Prop := ∃ t : Nat, t < p.tasks.toNat ∧ Rch p.edges (t : Int) (t : Int)
open Classical in
noncomputable def dC (p : Plan) : Int :=
  if dQ p then 1 else if ¬ EdgesIn p.tasks.toNat p.edges then 2 else if ¬ p.edges.Nodup then 3 else if jQ p then 4 else 0
theorem pf1 {p : Plan} (h : dQ p) : dC p = 1 := by unfold dC; rw [if_pos h]
theorem pf2 {p : Plan} (h : ¬ dQ p) (h2 : ¬ EdgesIn p.tasks.toNat p.edges) : dC p = 2 := by unfold dC; rw [if_neg h, if_pos h2]
theorem pf3 {p : Plan} (h : ¬ dQ p) (h2 : EdgesIn p.tasks.toNat p.edges) (h3 : ¬ p.edges.Nodup) : dC p = 3 := by unfold dC; rw [if_neg h, if_neg (not_not_intro h2), if_pos h3]
theorem pf4 {p : Plan} (h : ¬ dQ p) (h2 : EdgesIn p.tasks.toNat p.edges) (h3 : p.edges.Nodup) (h4 : jQ p) : dC p = 4 := by unfold dC; rw [if_neg h, if_neg (not_not_intro h2), if_neg (not_not_intro h3), if_pos h4]
theorem pf0 {p : Plan} (h : ¬ dQ p) (h2 : EdgesIn p.tasks.toNat p.edges) (h3 : p.edges.Nodup) (h4 : ¬ jQ p) : dC p = 0 := by unfold dC; rw [if_neg h, if_neg (not_not_intro h2), if_neg (not_not_intro h3), if_neg h4]
theorem qA {p : Plan} (h : dC p = 0) : ¬ dQ p ∧ EdgesIn p.tasks.toNat p.edges ∧ p.edges.Nodup ∧ ¬ jQ p := by
  by_cases h1 : dQ p
  · rw [pf1 h1] at h; omega
  by_cases h2 : EdgesIn p.tasks.toNat p.edges
  · by_cases h3 : p.edges.Nodup
    · by_cases h4 : jQ p
      · rw [pf4 h1 h2 h3 h4] at h; omega
      · exact ⟨h1, h2, h3, h4⟩
    · rw [pf3 h1 h2 h3] at h; omega
  · rw [pf2 h1 h2] at h; omega
theorem EdgesIn.nil {n : Nat} : EdgesIn n [] := fun e h => by cases h
theorem EdgesIn.step {n : Nat} {es : List Edge} {k : Nat} (h : EdgesIn n (es.take k)) (hk : k < es.length) (h1 : (0 ≤ es[k].from_ ∧ es[k].from_ < n) ∧ (0 ≤ es[k].to_ ∧ es[k].to_ < n)) : EdgesIn n (es.take (k + 1)) := by
  intro e he
  rw [List.take_succ_eq_append_getElem hk] at he
  rcases List.mem_append.1 he with he | he
  · exact h e he
  · simp at he; subst he; exact h1
theorem EdgesIn.at {n : Nat} {es : List Edge} (h : EdgesIn n es) {k : Nat} (hk : k < es.length) : (0 ≤ es[k].from_ ∧ es[k].from_ < n) ∧ (0 ≤ es[k].to_ ∧ es[k].to_ < n) := h _ (List.getElem_mem hk)
theorem rA {α : Type} {xs : List α} {k : Nat} (h : (xs.take k).Nodup) (hk : k < xs.length) (hn : xs[k] ∉ xs.take k) : (xs.take (k + 1)).Nodup := by
  rw [List.take_succ_eq_append_getElem hk, List.nodup_append]
  exact ⟨h, by simp, fun a ha b hb => by simp at hb; subst hb; exact fun e => hn (e ▸ ha)⟩
theorem oM {α : Type} {xs : List α} {k : Nat} (hk : k < xs.length) (hm : xs[k] ∈ xs.take k) : ¬ xs.Nodup := by
  intro h
  have h2 : (xs.take (k + 1)).Nodup := h.sublist (List.take_sublist _ _)
  rw [List.take_succ_eq_append_getElem hk, List.nodup_append] at h2
  exact h2.2.2 _ hm _ (by simp) rfl
theorem not_mem_take_step {α : Type} {xs : List α} {y : α} {k : Nat} (hk : k < xs.length) (h : y ∉ xs.take k) (hn : ¬ y = xs[k]) : y ∉ xs.take (k + 1) := by
  rw [List.take_succ_eq_append_getElem hk, List.mem_append]
  rintro (h1 | h1)
  · exact h h1
  · simp at h1; exact hn h1
theorem qB {α : Type} {xs : List α} {i k : Nat} (hi : i < xs.length) (h : i < k) : xs[i] ∈ xs.take k := by
  rw [List.mem_take_iff_getElem]
  exact ⟨i, by omega, rfl⟩
/-! ### The sets, as numbers -/
theorem relax_snoc (es : List Edge) (m : List Nat) (k : Nat) (hk : k < es.length) : hQ (es.take (k + 1)) m = iF (hQ (es.take k) m) es[k] := by
  unfold hQ
  rw [List.take_succ_eq_append_getElem hk, List.foldl_append]; rfl
theorem relax1_bd {m : List Nat} {e : Edge} (h : ∀ x ∈ m, x < 4294967296) (he : 0 ≤ e.to_ ∧ e.to_ < 32) : ∀ x ∈ iF m e, x < 4294967296 := by
  intro x hx
  unfold iF at hx
  rcases List.mem_or_eq_of_mem_set hx with hx | rfl
  · exact h x hx
  · have hd : ∀ i, m.getD i 0 < 2 ^ 32 := by
      intro i
      rw [List.getD_eq_getElem?_getD]
      cases hi : m[i]? with
      | none => simp
      | some y => simpa using h y (List.mem_of_getElem? hi)
    have h1 : 1 <<< e.to_.toNat < 2 ^ 32 := by
      rw [Nat.one_shiftLeft]
      exact Nat.pow_lt_pow_right (by omega) (by omega)
    exact Nat.or_lt_two_pow (hd _) (Nat.or_lt_two_pow h1 (hd _))
theorem qT {n : Nat} (hn : n ≤ 32) : ∀ {es : List Edge} {m : List Nat}, EdgesIn n es → (∀ x ∈ m, x < 4294967296) → ∀ x ∈ hQ es m, x < 4294967296
  | [], m, _, h => h
  | e :: es, m, hi, h => by
    refine qT hn (es := es) (m := iF m e) (fun x hx => hi x (by simp [hx])) (relax1_bd h ?_)
    have := hi e (by simp)
    omega
theorem sJ {n : Nat} (hn : n ≤ 32) {es : List Edge} (hi : EdgesIn n es) (k : Nat) : ∀ x ∈ eH es (List.replicate n 0) k, x < 4294967296 := by
  induction k with
  | zero => intro x hx; simp [eH, List.mem_replicate] at hx; omega
  | succ k ih => exact qT hn hi ih
theorem castL_relax1 {m : List Nat} {e : Edge} (hf : 0 ≤ e.from_) (h1 : e.from_.toNat < (eP m).length) (h2 : e.to_.toNat < (eP m).length) :
    (eP m).set e.from_.toNat (orI ((eP m)[e.from_.toNat]'h1) (orI (rZ e.to_) ((eP m)[e.to_.toNat]'h2))) = eP (iF m e) := by
  unfold iF
  rw [← castL_set]
  congr 1
  unfold orI rZ
  rw [rS h1]
  simp only [Int.toNat_natCast]
  rw [rS h2]
theorem sA {n : Nat} {es : List Edge} (hi : EdgesIn n es) {t : Nat} (ht : t < n) (h : t < (eP (eH es (List.replicate n 0) n)).length) : wU (vF ((eP (eH es (List.replicate n 0) n))[t]'h) (t : Int)) 1 = 1 ↔ Rch es (t : Int) (t : Int) := by
  rw [andI_one, rS h]
  have hw := waits_iff hi (a := (t : Int)) (b := (t : Int)) (by omega) (by omega)
  unfold jW at hw
  rw [← hw, Int.toNat_natCast]
  split <;> simp_all
end Go.Proofs.YtchnllpegfbleaaGreat
namespace Go.Proofs.YtchnllpegfbleaaGreat
set_option linter.unusedSimpArgs false
set_option linter.unusedVariables false
open Go.RowKit

def cW (l : List Int) : List Int := l.mergeSort (fun x y => decide (x ≤ y))
theorem kZ (l : List Int) : (cW l).Perm l := List.mergeSort_perm l _
theorem sortI_le (l : List Int) : (cW l).Pairwise (fun x y => x ≤ y) := by
  have h := List.pairwise_mergeSort (le := fun x y : Int => decide (x ≤ y)) (fun a b c h1 h2 => by simp only [decide_eq_true_eq] at *; omega) (fun a b => by simp only [Bool.or_eq_true, decide_eq_true_eq]; omega) l
  exact h.imp (fun h => by simpa using h)
theorem pJ (l : List Int) : (cW l).length = l.length := (kZ l).length_eq
theorem sortI_eq {l l' : List Int} (hp : l.Perm l') (hs : l.Pairwise (fun x y => x ≤ y)) : l = cW l' :=
  List.Perm.eq_of_pairwise (le := fun x y => x ≤ y) (fun a b _ _ h1 h2 => by omega) hs (sortI_le l') (hp.trans (kZ l').symm)
def gN (l : List Int) (n : Nat) : List Int := (List.range n).flatMap (fun t : Nat => l.filter (fun x => decide (x = (t : Int))))
theorem filter_or {α : Type} (p q r : α → Bool) (l : List α) (h : ∀ x, r x = (p x || q x)) (hd : ∀ x, p x = true → q x = true → False) : (l.filter p ++ l.filter q).Perm (l.filter r) := by
  induction l with
  | nil => simp
  | cons x l ih =>
    cases hp : p x with
    | true =>
      have hq : q x = false := by cases hq : q x with | true => exact (hd x hp hq).elim | false => rfl
      have hr : r x = true := by rw [h, hp]; rfl
      simp only [List.filter_cons, hp, hq, hr, if_true, Bool.false_eq_true, if_false, List.cons_append]
      exact List.Perm.cons _ ih
    | false =>
      cases hq : q x with
      | true =>
        have hr : r x = true := by rw [h, hp, hq]; rfl
        simp only [List.filter_cons, hp, hq, hr, if_true, Bool.false_eq_true, if_false]
        exact (List.perm_middle).trans (List.Perm.cons _ ih)
      | false =>
        have hr : r x = false := by rw [h, hp, hq]; rfl
        simp only [List.filter_cons, hp, hq, hr, Bool.false_eq_true, if_false]
        exact ih
theorem mO (l : List Int) : ∀ n : Nat, (gN l n).Perm (l.filter (fun x => decide (0 ≤ x) && decide (x < (n : Int))))
  | 0 => by
    have : l.filter (fun x => decide (0 ≤ x) && decide (x < ((0 : Nat) : Int))) = [] := by
      rw [List.filter_eq_nil_iff]
      intro x _; simp
    rw [this]
    exact List.Perm.refl _
  | n + 1 => by
    have ih := mO l n
    have hb : gN l (n + 1) = gN l n ++ l.filter (fun x => decide (x = (n : Int))) := by simp [gN, List.range_succ, List.flatMap_append]
    rw [hb]
    refine (ih.append_right _).trans (filter_or _ _ _ l (fun x => ?_) (fun x h1 h2 => ?_))
    · rw [Bool.eq_iff_iff]; simp; omega
    · simp at h1 h2; omega
theorem tH (l : List Int) : ∀ n : Nat, (gN l n).Pairwise (fun x y => x ≤ y) ∧ ∀ x ∈ gN l n, x < (n : Int)
  | 0 => by simp [gN]
  | n + 1 => by
    have ih := tH l n
    have hb : gN l (n + 1) = gN l n ++ l.filter (fun x => decide (x = (n : Int))) := by simp [gN, List.range_succ, List.flatMap_append]
    rw [hb]
    have hf : ∀ x ∈ l.filter (fun x => decide (x = (n : Int))), x = (n : Int) := fun x hx => by simpa using (List.mem_filter.1 hx).2
    refine ⟨?_, ?_⟩
    · rw [List.pairwise_append]
      refine ⟨ih.1, ?_, ?_⟩
      · rw [List.pairwise_iff_forall_sublist]
        intro a b hs
        have h1 := hf a (hs.subset (by simp))
        have h2 := hf b (hs.subset (by simp))
        omega
      · intro a ha b hb
        have h1 := ih.2 a ha
        have h2 := hf b hb
        omega
    · intro x hx
      rcases List.mem_append.1 hx with h | h
      · have := ih.2 x h; omega
      · have := hf x h; omega
theorem byTurn_eq {l : List Int} {n : Nat} (h : ∀ x ∈ l, 0 ≤ x ∧ x < (n : Int)) : gN l n = cW l := by
  refine sortI_eq ?_ (tH l n).1
  have hp := mO l n
  rwa [List.filter_eq_self.2 (fun x hx => by have := h x hx; simp; omega)] at hp
def cJ (es : List Edge) (task : Int) : List Int := (es.filter (fun e => decide (e.to_ = task))).map (·.from_)
noncomputable def cT (p : Plan) (task : Int) : List Int := if dC p = 0 then cW (cJ p.edges task) else []
theorem pR (es : List Edge) (task : Int) : (cJ es task).length ≤ es.length := by
  unfold cJ; rw [List.length_map]; exact List.length_filter_le _ _
theorem lG {es : List Edge} {task : Int} {k : Nat} (hk : k < es.length) (h : es[k].to_ = task) : cJ (es.take (k + 1)) task = cJ (es.take k) task ++ [es[k].from_] := by
  rw [List.take_succ_eq_append_getElem hk, cJ, List.filter_append, List.map_append]; simp [cJ, h]
theorem oQ {es : List Edge} {task : Int} {k : Nat} (hk : k < es.length) (h : ¬ es[k].to_ = task) : cJ (es.take (k + 1)) task = cJ (es.take k) task := by
  rw [List.take_succ_eq_append_getElem hk, cJ, List.filter_append, List.map_append]; simp [cJ, h]
theorem sW {n : Nat} {es : List Edge} (hi : EdgesIn n es) (task : Int) : ∀ x ∈ cJ es task, 0 ≤ x ∧ x < (n : Int) := by
  intro x hx
  simp only [cJ, List.mem_map, List.mem_filter] at hx
  obtain ⟨e, ⟨he, _⟩, rfl⟩ := hx
  exact (hi e he).1
def kO (es : List Edge) (task : Int) (t : Int) : List Int := (cJ es task).filter (fun x => decide (x = t))
theorem qE (l : List Int) (n : Nat) : gN l (n + 1) = gN l n ++ l.filter (fun x => decide (x = (n : Int))) := by simp [gN, List.range_succ, List.flatMap_append]
theorem byTurn_len_le (l : List Int) (n : Nat) : (gN l n).length ≤ l.length := by
  rw [(mO l n).length_eq]; exact List.length_filter_le _ _
theorem onesF_step_t {es : List Edge} {task t : Int} {k : Nat} (hk : k < es.length) (h : es[k].from_ = t ∧ es[k].to_ = task) : kO (es.take (k + 1)) task t = kO (es.take k) task t ++ [t] := by
  unfold kO; rw [lG hk h.2]; simp [List.filter_append, h.1]
theorem oL {es : List Edge} {task t : Int} {k : Nat} (hk : k < es.length) (h : ¬ (es[k].from_ = t ∧ es[k].to_ = task)) : kO (es.take (k + 1)) task t = kO (es.take k) task t := by
  unfold kO
  by_cases h2 : es[k].to_ = task
  · rw [lG hk h2]
    have : ¬ es[k].from_ = t := fun e => h ⟨e, h2⟩
    simp [List.filter_append, this]
  · rw [oQ hk h2]
theorem onesF_len (es : List Edge) (task t : Int) (k n : Nat) : (gN (cJ es task) n ++ kO (es.take k) task (n : Int)).length ≤ es.length := by
  have h1 := byTurn_len_le (cJ es task) (n + 1)
  rw [qE, List.length_append] at h1
  have h2 : (kO (es.take k) task (n : Int)).length ≤ (kO es task (n : Int)).length := by
    unfold kO cJ
    exact List.Sublist.length_le (List.Sublist.filter _ (List.Sublist.map _ (List.Sublist.filter _ (List.take_sublist k es))))
  have h3 := pR es task
  rw [List.length_append]
  unfold kO at h2 ⊢
  omega
theorem rV (p : Plan) (task : Int) : ∀ x ∈ cT p task, 0 ≤ x ∧ x < p.tasks := by
  intro x hx
  unfold cT at hx
  split at hx
  · rename_i h
    obtain ⟨h1, h2, _⟩ := qA h
    have := sW h2 task x ((kZ _).mem_iff.1 hx)
    unfold dQ at h1
    omega
  · cases hx
theorem lP (p : Plan) (task : Int) : (cT p task).length ≤ 30 := by
  unfold cT
  split
  · rename_i h
    obtain ⟨h1, _⟩ := qA h
    rw [pJ]
    have := pR p.edges task
    unfold dQ at h1
    omega
  · simp
end Go.Proofs.YtchnllpegfbleaaGreat
namespace Go.Proofs.YtchnllpegfbleaaGreat
set_option linter.unusedSimpArgs false
set_option linter.unusedVariables false
open Go.RowKit
def hG {α : Type} (p : α → Bool) : List α → Option Nat
  | [] => none
  | x :: xs => if p x then some 0 else (hG p xs).map (· + 1)
theorem iZ {α : Type} {p : α → Bool} : ∀ {xs : List α} {k : Nat} (hk : k < xs.length), (xs.take k).any p = false → p xs[k] = true → hG p xs = some k
  | x :: xs, 0, _, _, hp => by simp at hp; simp [hG, hp]
  | x :: xs, k + 1, hk, h, hp => by
    simp only [List.take_succ_cons, List.any_cons, Bool.or_eq_false_iff] at h
    rw [hG, h.1, if_neg (by simp), iZ (xs := xs) (k := k) (by simpa using hk) h.2 (by simpa using hp)]
    rfl
theorem jA {α : Type} {p : α → Bool} : ∀ {xs : List α}, xs.any p = false → hG p xs = none
  | [], _ => rfl
  | x :: xs, h => by
    simp only [List.any_cons, Bool.or_eq_false_iff] at h
    rw [hG, h.1, if_neg (by simp), jA h.2]; rfl
theorem qI {α : Type} {p : α → Bool} : ∀ {xs : List α} {k : Nat}, hG p xs = some k → ∃ h : k < xs.length, p xs[k] = true
  | x :: xs, k, h => by
    unfold hG at h
    by_cases hx : p x = true
    · rw [if_pos hx] at h; cases h; exact ⟨by simp, hx⟩
    · rw [if_neg hx] at h
      cases hq : hG p xs with
      | none => rw [hq] at h; cases h
      | some j =>
        rw [hq] at h
        cases h
        obtain ⟨h1, h2⟩ := qI hq
        exact ⟨by simpa using h1, by simpa using h2⟩
def ixI : Option Nat → Int
  | some k => k
  | none => -1
theorem lQ {α : Type} {p : α → Bool} {xs : List α} {k : Nat} (hk : k < xs.length) (h : (xs.take k).any p = false) (hx : p xs[k] = false) : (xs.take (k + 1)).any p = false := by
  rw [List.take_succ_eq_append_getElem hk, List.any_append, h]; simp [hx]
theorem wI {α : Type} [DecidableEq α] (y : α) (xs : List α) : decide (0 ≤ ixI (hG (fun x => eqB y x) xs)) = decide (y ∈ xs) := by
  rw [decide_eq_decide]
  cases h : hG (fun x => eqB y x) xs with
  | some k =>
    obtain ⟨hk, hp⟩ := qI h
    have e := eqB_iff.1 hp
    refine ⟨fun _ => ?_, fun _ => by simp [ixI]⟩
    rw [e]; exact List.getElem_mem hk
  | none =>
    refine ⟨fun h2 => by simp [ixI] at h2, fun hm => ?_⟩
    obtain ⟨k, hk, rfl⟩ := List.getElem_of_mem hm
    have : hG (fun x => eqB xs[k] x) xs ≠ none := by
      intro hn
      have key : ∀ (l : List α), hG (fun x => eqB xs[k] x) l = none → xs[k] ∉ l := by
        intro l
        induction l with
        | nil => simp
        | cons a l ih =>
          intro hl hm
          unfold hG at hl
          by_cases ha : eqB xs[k] a = true
          · rw [if_pos ha] at hl; cases hl
          · rw [if_neg ha] at hl
            rcases List.mem_cons.1 hm with e | hm
            · exact ha (dV e)
            · refine ih ?_ hm
              cases hq : hG (fun x => eqB xs[k] x) l with
              | none => rfl
              | some j => rw [hq] at hl; cases hl
      exact key xs hn (List.getElem_mem hk)
    exact absurd h this
end Go.Proofs.YtchnllpegfbleaaGreat
namespace Go.Proofs.YtchnllpegfbleaaGreat
set_option linter.unusedSimpArgs false
set_option linter.unusedVariables false
set_option maxRecDepth 100000
open Go.RowKit


def gZ (ts : List Task) (s : Int) (k : Nat) : List Int := (List.range k).filterMap (fun i : Nat => if (ts[i]?).map Task.state = some s then some (i : Int) else none)
def aT (ts : List Task) (s : Int) : List Int := gZ ts s ts.length
theorem jZ (ts : List Task) (s : Int) (k : Nat) : (gZ ts s k).length ≤ k := by
  unfold gZ
  have := List.length_filterMap_le (fun i : Nat => if (ts[i]?).map Task.state = some s then some (i : Int) else none) (List.range k)
  rwa [List.length_range] at this
theorem mS {ts : List Task} {s : Int} {k : Nat} (h : k < ts.length) (hs : ts[k].state = s) : gZ ts s (k + 1) = gZ ts s k ++ [(k : Int)] := by
  unfold gZ
  rw [List.range_succ, List.filterMap_append]
  simp [h, hs]
theorem pE {ts : List Task} {s : Int} {k : Nat} (h : k < ts.length) (hs : ¬ ts[k].state = s) : gZ ts s (k + 1) = gZ ts s k := by
  unfold gZ
  rw [List.range_succ, List.filterMap_append]
  simp [h, hs]
set_option maxHeartbeats 2000000 in
theorem mR (w : World) {r : Run} {cs : List Value} {fp : List Nat} (hc : Shape.C w cs r fp) (s : Int) (hl : r.tasks.length ≤ 1048576) :
    Calls Tryz.prog 162 #[.agg cs.toArray, I s] w fun e w' => ∃ v fp', e = .returned v ∧ St w w' [Res.own v (aT r.tasks s) fp'] := by
  have hk1 := hc
  obtain ⟨v1_0, v1_1, g1_0, g1_1, rfl, hok1, h1_0, h1_1, rfl⟩ := hk1
  refine cF Tryz.func162 rfl Tryz.ntmps162 (by decide) (wp_seq (aA (sg (aQ (cs := [I r.id, I r.plan.prio, I r.plan.most, I r.plan.wait, I r.plan.tasks, v1_0, I r.state, v1_1]) rfl (St.start w) ?_)))); intro b2 W3 hb4 st5
  refine sg (aD (v := .slice none 0 0) rfl (aE (wp_seq (aA (sg (aD (v := .slice none 0 0) rfl (aE (wp_seq (wp_seq (aA (sg (aC bJ rfl (sg (aF bM rfl rfl (st5.get 0 rfl) (i := 7) rfl rfl (sg (aV bD rfl h1_1 ?_))))))))))))))))
  refine sg (aB (v := I 0) rfl (aE (wp_block ?_)))
  have st8 := st5.row_nil (α := Int) 3
  refine bH (fun (m : Nat) (f : Nat → Value) (W : World) => ∃ (k : Nat) (v7 : Value), k ≤ r.tasks.length ∧ m = r.tasks.length - k ∧ f 1 = I s ∧ f 5 = v7 ∧ f 9 = v1_1 ∧ f 10 = I (r.tasks.length : Int) ∧ f 11 = I (k : Int) ∧ St w W ([Res.row (α := Int) 3 v7 (gZ r.tasks s k) [], Res.bx b2 [I r.id, I r.plan.prio, I r.plan.most, I r.plan.wait, I r.plan.tasks, v1_0, I r.state, v1_1] 123])) (r.tasks.length - 0) ?_ ?_
  · exact ⟨0, (.slice none 0 0), (by first | omega | simp), rfl, rfl, rfl, rfl, rfl, rfl, st8⟩
  intro m10 f11 W12 hJ13
  obtain ⟨k, v7, hcd15_0, rfl, hs15_1, hs15_5, hs15_9, hs15_10, hs15_11, st14⟩ := hJ13
  have hlen := jZ r.tasks s k
  refine wp_seq (aA (sg (aY hs15_11 hs15_10 (aE (wp_seq (aR rfl (fun h16 => ?_) (fun h16 => ?_)))))))
  · have h16p := of_decide_eq_true h16
    refine wp_skip (wp_seq (wp_block (wp_seq (aA (sg (aB (v := I (k : Int)) hs15_11 ?_))))))
    have hif4d94 : k < r.tasks.length := (by omega)
    have hq_ := idx h1_1 (i := k) hif4d94
    obtain ⟨b17, o17, cs17, f17, hp17, hr17, hc17, hm17⟩ := hq_
    refine sg (aG bD hs15_9 hp17 hs15_11 rfl (sg (bY fJ rfl rfl hr17 st14.below (Shape.len hc17) (sg (bN jO st14 ?_))))); intro b18 W19 hb20 st21
    refine sg (aD (v := I (k : Int)) rfl (sg (bU (cs := cs17) fJ hc17 rfl rfl st21 rfl ?_))); intro W23 st24
    refine aE (wp_seq (aA (sg (aC bP rfl ?_))))
    have hk25 := hc17
    obtain ⟨he25, rfl, hok25⟩ := hk25
    have he25 : _ = [I (r.tasks[k]'hif4d94).state, I (r.tasks[k]'hif4d94).need, I (r.tasks[k]'hif4d94).try_, I (r.tasks[k]'hif4d94).until_] := he25
    subst he25
    refine sg (aF aJ rfl rfl (st24.get 0 rfl) (i := 0) rfl rfl (sg (aB (v := I s) hs15_1 (sg (bA rfl rfl (aE (aR rfl (fun h26 => ?_) (fun h26 => ?_))))))))
    · have h26p := of_decide_eq_true h26
      refine aA (sg (aB (v := v7) hs15_5 (sg (aB (v := I (k : Int)) rfl (sg (bR (cs := [I (k : Int)]) (e := 3) (eG (v := I (k : Int)) rfl gK) (cG gH _ _ rfl rfl (by decide)) st24 ?_)))))); intro b27 W28 hb29 st30
      have st32 := st30.f2
      refine sg (eC (ys := [(k : Int)]) gH rfl rfl rfl st32 (Elems.int1 (by simp only [I64]; omega)) (by unfold maxLen; omega) (by omega) ?_); intro v33 W34 st35
      refine sg (aD (v := v33) rfl (aE (aA (sg (aP hs15_11 rfl (by (simp only [I64] at *; omega)) (sg (aB (v := I ((k : Int) + 1)) rfl (aE ?_))))))))
      have st36 := st35.f2
      have st37 := st36.f1
      have st38 := st37.d2
      exact ⟨_, r.tasks.length - (k + 1), (by omega), rfl, k + 1, v33, (by omega), rfl, hs15_1, rfl, hs15_9, hs15_10, rfl, (by rw [mS (by omega) h26p]; exact st38)⟩
    · have h26p := of_decide_eq_false h26
      refine wp_skip (aA (sg (aP hs15_11 rfl (by (simp only [I64] at *; omega)) (sg (aB (v := I ((k : Int) + 1)) rfl (aE ?_))))))
      have st39 := st24.f2
      have st40 := st39.f2
      have st41 := st40.d2
      exact ⟨_, r.tasks.length - (k + 1), (by omega), rfl, k + 1, v7, (by omega), rfl, hs15_1, hs15_5, hs15_9, hs15_10, rfl, (by rw [pE (by omega) h26p]; exact st41)⟩
  · have h16p := of_decide_eq_false h16
    refine wp_exit (wp_seq (aA (sg (aB (v := v7) hs15_5 (sg (aD (v := v7) rfl (aE (wp_ret ?_)))))))); repeat first|refine aH ?_|refine aI ?_
    refine aW Tryz.results162 rfl ?_
    have hq_ := st14.shut
    obtain ⟨fpz, stz⟩ := hq_
    obtain rfl : k = r.tasks.length := by omega
    exact ⟨_, fpz, rfl, stz.only 0 rfl⟩
end Go.Proofs.YtchnllpegfbleaaGreat
namespace Go.Proofs.YtchnllpegfbleaaGreat
set_option linter.unusedSimpArgs false
set_option linter.unusedVariables false
set_option maxRecDepth 100000
open Go.RowKit

theorem wV {n a b : Int} (h : a ≤ n ∧ n ≤ b) : inB n a b = true := by simp [inB, h]
theorem vX {n a b : Int} (h : ¬ (a ≤ n ∧ n ≤ b)) : inB n a b = false := by simp [inB]; omega
theorem within_any (n a b : Int) (w : World) : Calls Tryz.prog 47 #[.int .i64 n, .int .i64 a, .int .i64 b] w fun e w' => e = .returned (.bool (inB n a b)) ∧ w = w' := by
  by_cases h : a ≤ n
  · by_cases h2 : n ≤ b
    · go_enter Tryz.func47, Tryz.ntmps47
      go_wp2
      go_ret
      exact ⟨by rw [wV ⟨h, h2⟩]; simp <;> omega, rfl⟩
    · go_enter Tryz.func47, Tryz.ntmps47
      go_wp2
      go_ret
      exact ⟨by rw [vX (by omega)]; simp <;> omega, rfl⟩
  · go_enter Tryz.func47, Tryz.ntmps47
    go_wp2
    go_ret
    exact ⟨by rw [vX (by omega)]; simp <;> omega, rfl⟩
theorem l01In_any (n a b : Int) (w : World) : Calls Tryz.prog 43 #[.int .i64 n, .int .i64 a, .int .i64 b] w fun e w' => e = .returned (.bool (inB n a b)) ∧ w = w' := by
  by_cases h : a ≤ n
  · by_cases h2 : n ≤ b
    · go_enter Tryz.func43, Tryz.ntmps43
      go_wp2
      go_ret
      exact ⟨by rw [wV ⟨h, h2⟩]; simp <;> omega, rfl⟩
    · go_enter Tryz.func43, Tryz.ntmps43
      go_wp2
      go_ret
      exact ⟨by rw [vX (by omega)]; simp <;> omega, rfl⟩
  · go_enter Tryz.func43, Tryz.ntmps43
    go_wp2
    go_ret
    exact ⟨by rw [vX (by omega)]; simp <;> omega, rfl⟩
end Go.Proofs.YtchnllpegfbleaaGreat
namespace Go.Proofs.YtchnllpegfbleaaGreat
set_option linter.unusedSimpArgs false
set_option linter.unusedVariables false
set_option maxRecDepth 100000
open Go.RowKit


theorem eL (w : World) (n a b : Int) : Calls Tryz.prog 47 #[I n, I a, I b] w fun e w' => e = .returned (.bool (inB n a b)) ∧ St w w' [] := (within_any n a b w).mono fun e w' ⟨h1, h2⟩ => ⟨h1, by subst h2; exact St.start w⟩
theorem fK (w : World) (n a b : Int) : Calls Tryz.prog 43 #[I n, I a, I b] w fun e w' => e = .returned (.bool (inB n a b)) ∧ St w w' [] := (l01In_any n a b w).mono fun e w' ⟨h1, h2⟩ => ⟨h1, by subst h2; exact St.start w⟩
theorem rW {α : Type} {p : α → Bool} {xs : List α} {k : Nat} (hk : k < xs.length) (h : (xs.take k).any p = false) (hp : p xs[k] = false) : (xs.take (k + 1)).any p = false := by
  rw [List.take_succ_eq_append_getElem hk, List.any_append, h]; simp [hp]
theorem oC {α : Type} (f : α → Nat) (xs : List α) (k : Nat) (h : k < xs.length) : ((xs.take (k + 1)).map f).sum = ((xs.take k).map f).sum + f xs[k] := nX f xs k h
theorem wG {α : Type} {f g : α → Nat} (h : ∀ x, f x ≤ g x) : ∀ xs : List α, (xs.map f).sum ≤ (xs.map g).sum
  | [] => by simp
  | x :: xs => by simp only [List.map_cons, List.sum_cons]; have := h x; have := wG h xs; omega
theorem jU {y : Yard} {k : Nat} (h : k < y.runs.length) : y.runs[k].wt + y.runs.length ≤ y.wt := by
  have := nY (fun y : Run => y.wt) y.runs k h
  unfold Yard.wt wtL
  omega
end Go.Proofs.YtchnllpegfbleaaGreat
namespace Go.Proofs.YtchnllpegfbleaaGreat
set_option linter.unusedSimpArgs false
set_option linter.unusedVariables false
set_option maxRecDepth 100000
open Go.RowKit
theorem PA.same {v : Value} {k i b o b' o' : Nat} (h : PA v k i b o) (h' : PA v k i b' o') : b = b' ∧ o = o' := by
  obtain ⟨off, len, cap, rfl, _, rfl⟩ := h
  obtain ⟨off', len', cap', e, _, rfl⟩ := h'
  injection e with e1 e2 e3
  injection e1 with e1
  injection e1 with e1 e4
  subst e1 e4
  exact ⟨rfl, rfl⟩
section
variable {P : Program} {n : Nat} {f : Nat → Value} {W w0 : World} {rs : List Res} {Q : Exit → Act → World → Prop} {K : Value → World → Prop}
  {d : Option Tmp} {ty : TypeId} {pos : String} {af : Array Go.Edge} {g : Option (Nat × Bool)} {α : Type} [Shape α]
theorem pH {t : TypeId} {x y : Operand} {b o i : Nat} {v u : Value} {xs : List α} {z : α} {fp : List Nat} (hs : Shape.size α = 1) (hi : (P.info? t).map (·.size) = some 1) (hx : ev n f x = .pointer (some ⟨b, o, none⟩)) (hPA : PA v (Shape.size α) i b o) (hl : i < xs.length) (hy : ev n f y = u) (h1 : u.cells = #[u]) (h2 : u.oneCell' = true)
    (hst : St w0 W (Res.own v xs fp :: rs)) (hc : ∀ W, Shape.C W [u] z []) (k : ∀ fp' W', St w0 W' (Res.own v (xs.set i z) fp' :: rs) → K undef W') : Stp P n ⟨d, .store t x y, ty, pos, af, g⟩ f W Q K := by
  obtain ⟨b', e, pre, cs, post, fi, fr, hPA', hC, st⟩ := St.lend (α := α) (by omega) hst hl
  obtain ⟨rfl, rfl⟩ := hPA.same hPA'
  have hcl := Shape.len hC
  rw [hs] at hcl
  obtain ⟨c, rfl⟩ : ∃ c, cs = [c] := by
    cases cs with
    | nil => simp at hcl
    | cons c cs => cases cs with
      | nil => exact ⟨c, rfl⟩
      | cons _ _ => simp at hcl
  refine bX (i := 0) (C' := [u]) hi hx hy h1 h2 st rfl (Nat.le_refl _) rfl ?_
  intro W' st'
  have st2 := st'.d1
  have st3 := St.cs0 (cs := [u]) (x := z) st2 (hc W')
  have st4 := st3.f1
  obtain ⟨fp', st5⟩ := St.give (α := α) st4
  exact k fp' W' st5
theorem made_list (v : Value) (m : Nat) : (madeCells #[v] m).toList = List.replicate m v := by
  apply List.ext_getElem
  · rw [Array.length_toList, size_madeCells, List.length_replicate]
  · intro j h1 h2
    rw [List.getElem_replicate, Array.getElem_toList]
    simp [madeCells, Nat.mod_one]
theorem Elems.rep {W : World} {v : Value} {z : α} (h : Shape.C W [v] z []) : ∀ m, Elems W (List.replicate m v) (List.replicate m z) []
  | 0 => ⟨rfl, rfl⟩
  | m + 1 => ⟨[v], List.replicate m v, [], [], rfl, h, Elems.rep h m, rfl⟩
theorem sE {t e : TypeId} {bytes : Nat} {x y : Operand} {N : Nat} {v : Value} {z : α} (hT : ApOk P t e α bytes) (hzero : ((P.info? e).bind (·.zero)).map (·.cells) = some #[v]) (hx : ev n f x = I (N : Int)) (hy : ev n f y = I (N : Int)) (hN : N ≤ 1048576 * 64) (hb : N * bytes ≤ 140737488355328) (hst : St w0 W rs) (hz : ∀ W, Shape.C W [v] z [])
    (k : ∀ b fp W', Below W.heap.size W W' → St w0 W' (Res.own (.slice (some ⟨b, 0, none⟩) N N) (List.replicate N z) fp :: rs) → K (.slice (some ⟨b, 0, none⟩) N N) W') : Stp P n ⟨d, .makeSlice t x y, ty, pos, af, g⟩ f W Q K := by
  obtain ⟨i, zz, hi, hzz, h1, h2, h3⟩ := hT.info
  have hzc : zz.cells = #[v] := by simpa [hi, hzz] using hzero
  have hs1 : Shape.size α = 1 := by rw [← h3, hzc]; rfl
  have hb' : (N : Int) * (bytes : Int) ≤ 140737488355328 := by have := Int.ofNat_le.2 hb; rw [Int.natCast_mul] at this; exact this
  have hmk := run_make (P := P) W t e i zz hT.desc hi hzz .i64 .i64 N N (by omega) (by omega) (by rw [h2, Int.mul_comm]; omega) (by omega)
  rw [Int.toNat_natCast, h1, hs1, Nat.mul_one, hzc] at hmk
  refine Stp.run (v := .slice (some ⟨W.heap.size, 0, none⟩) N N) (W' := W.alloc (.cells (madeCells #[v] N) e)) (by simp only [execOp, hx, hy, Sem.run_bind, hmk, Result.andThen_ok]; rfl) ?_
  have h := hst.alloc (madeCells #[v] N).toList e
  rw [Array.toArray_toList] at h
  have hbl : Below W.heap.size W (W.alloc (.cells (madeCells #[v] N) e)) := gR (Below.refl _ _)
  have h' : St w0 (W.alloc (.cells (madeCells #[v] N) e)) (Res.bx W.heap.size (List.replicate N v) e :: rs) := by
    rw [made_list] at h; exact h
  have hr := St.row_lit (α := α) (m := N) (ys := List.replicate N z) h' (by simp) (by unfold maxLen; omega) (Elems.rep (hz _) N)
  obtain ⟨fp, hr2⟩ := hr.shut
  exact k _ fp _ hbl hr2
end
end Go.Proofs.YtchnllpegfbleaaGreat
