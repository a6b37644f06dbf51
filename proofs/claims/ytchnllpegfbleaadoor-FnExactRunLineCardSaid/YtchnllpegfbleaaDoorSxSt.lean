/-
  What a call owns while it runs: blocks of its own, that nothing else leads to; calls, boxes, stores, appends over them.
-/
import Derived.Test.YtchnllpegfbleaaDoorSxOps
namespace Go.Proofs.YtchnllpegfbleaaDoor
set_option linter.unusedSimpArgs false
set_option linter.unusedVariables false
open Go.RowKit

/-- A block of cells that may be written. -/
def Wr (W : World) (b : Nat) : Prop := ∃ C e, W.heap[b]? = some (.cells C e (0, 0))
theorem Wr.lt {W : World} {b : Nat} (h : Wr W b) : b < W.heap.size := by
  obtain ⟨C, e, h⟩ := h
  exact (Array.getElem?_eq_some_iff.1 h).1
theorem Wr.loc {W W' : World} {b : Nat} (h : Wr W b) (he : W'.heap[b]? = W.heap[b]?) : Wr W' b := by
  obtain ⟨C, e, h⟩ := h
  exact ⟨C, e, by rw [he]; exact h⟩
theorem cell_of_heap {W W' : World} {b : Nat} (he : W'.heap[b]? = W.heap[b]?) (o : Nat) : W'.cell? ⟨b, o, none⟩ = W.cell? ⟨b, o, none⟩ := World.cell?_of_block (w := W) he

/-- Something that a call owns: the blocks, and what holds of them. -/
structure Res where
  fp : List Nat
  holds : World → Prop
  loc : ∀ {W W' : World}, W.heap.size ≤ W'.heap.size → (∀ b ∈ fp, W'.heap[b]? = W.heap[b]?) → holds W → holds W'
  wr : ∀ {W : World}, holds W → ∀ b ∈ fp, Wr W b

/-- From w0 on, W has come: what was there is as it was; what is owned is apart, and behind what was there. -/
structure St (w0 W : World) (rs : List Res) : Prop where
  below : Below w0.heap.size w0 W
  nodup : (rs.flatMap Res.fp).Nodup
  fresh : ∀ r ∈ rs, ∀ b ∈ r.fp, w0.heap.size ≤ b
  holds : ∀ r ∈ rs, r.holds W

theorem St.start (w : World) : St w w [] := ⟨Below.refl _ _, by simp, by simp, by simp⟩
theorem St.get {w0 W : World} {rs : List Res} (h : St w0 W rs) (i : Nat) {r : Res} (hi : rs[i]? = some r) : r.holds W := h.holds r (List.mem_of_getElem? hi)
theorem St.of_below {w0 W : World} (h : Below w0.heap.size w0 W) : St w0 W [] := ⟨h, by simp, by simp, by simp⟩
theorem sub_flatMap {rs rs' : List Res} (h : rs'.Sublist rs) : (rs'.flatMap Res.fp).Sublist (rs.flatMap Res.fp) := by
  induction h with
  | slnil => simp
  | cons a _ ih => rw [List.flatMap_cons]; exact ih.trans (List.sublist_append_right _ _)
  | cons_cons a _ ih => rw [List.flatMap_cons, List.flatMap_cons]; exact (List.Sublist.refl _).append ih
theorem eraseIdx_perm : ∀ (rs : List Res) (i : Nat) (h : i < rs.length), (rs[i] :: rs.eraseIdx i).Perm rs
  | r :: rs, 0, _ => List.Perm.refl _
  | r :: rs, i + 1, h => (List.Perm.swap _ _ _).trans ((eraseIdx_perm rs i (by simpa using h)).cons r)
theorem St.sub {w0 W : World} {rs rs' : List Res} (h : St w0 W rs) (hs : rs'.Sublist rs) : St w0 W rs' :=
  ⟨h.below, (sub_flatMap hs).nodup h.nodup, fun r hr => h.fresh r (hs.subset hr), fun r hr => h.holds r (hs.subset hr)⟩
theorem St.perm {w0 W : World} {rs rs' : List Res} (h : St w0 W rs) (hs : rs'.Perm rs) : St w0 W rs' :=
  ⟨h.below, ((hs.flatMap_right _).nodup_iff).2 h.nodup, fun r hr => h.fresh r (hs.subset hr), fun r hr => h.holds r (hs.subset hr)⟩
/-- Number i comes to the head. -/
theorem St.front {w0 W : World} {rs : List Res} (h : St w0 W rs) (i : Nat) {r : Res} (hi : rs[i]? = some r) : St w0 W (r :: rs.eraseIdx i) := by
  obtain ⟨hlt, rfl⟩ := List.getElem?_eq_some_iff.1 hi
  exact h.perm (eraseIdx_perm rs i hlt)
/-! Number k comes to the head, or is dropped: with the list written out. -/
theorem St.f1 {w0 W : World} {r0 r1 : Res} {rs : List Res} (h : St w0 W (r0 :: r1 :: rs)) : St w0 W (r1 :: r0 :: rs) := h.front 1 rfl
theorem St.f2 {w0 W : World} {r0 r1 r2 : Res} {rs : List Res} (h : St w0 W (r0 :: r1 :: r2 :: rs)) : St w0 W (r2 :: r0 :: r1 :: rs) := h.front 2 rfl
theorem St.f3 {w0 W : World} {r0 r1 r2 r3 : Res} {rs : List Res} (h : St w0 W (r0 :: r1 :: r2 :: r3 :: rs)) : St w0 W (r3 :: r0 :: r1 :: r2 :: rs) := h.front 3 rfl
theorem St.f4 {w0 W : World} {r0 r1 r2 r3 r4 : Res} {rs : List Res} (h : St w0 W (r0 :: r1 :: r2 :: r3 :: r4 :: rs)) : St w0 W (r4 :: r0 :: r1 :: r2 :: r3 :: rs) := h.front 4 rfl
theorem St.f5 {w0 W : World} {r0 r1 r2 r3 r4 r5 : Res} {rs : List Res} (h : St w0 W (r0 :: r1 :: r2 :: r3 :: r4 :: r5 :: rs)) : St w0 W (r5 :: r0 :: r1 :: r2 :: r3 :: r4 :: rs) := h.front 5 rfl
theorem St.f6 {w0 W : World} {r0 r1 r2 r3 r4 r5 r6 : Res} {rs : List Res} (h : St w0 W (r0 :: r1 :: r2 :: r3 :: r4 :: r5 :: r6 :: rs)) : St w0 W (r6 :: r0 :: r1 :: r2 :: r3 :: r4 :: r5 :: rs) := h.front 6 rfl
theorem St.f7 {w0 W : World} {r0 r1 r2 r3 r4 r5 r6 r7 : Res} {rs : List Res} (h : St w0 W (r0 :: r1 :: r2 :: r3 :: r4 :: r5 :: r6 :: r7 :: rs)) : St w0 W (r7 :: r0 :: r1 :: r2 :: r3 :: r4 :: r5 :: r6 :: rs) := h.front 7 rfl
theorem St.f8 {w0 W : World} {r0 r1 r2 r3 r4 r5 r6 r7 r8 : Res} {rs : List Res} (h : St w0 W (r0 :: r1 :: r2 :: r3 :: r4 :: r5 :: r6 :: r7 :: r8 :: rs)) : St w0 W (r8 :: r0 :: r1 :: r2 :: r3 :: r4 :: r5 :: r6 :: r7 :: rs) := h.front 8 rfl
theorem St.f9 {w0 W : World} {r0 r1 r2 r3 r4 r5 r6 r7 r8 r9 : Res} {rs : List Res} (h : St w0 W (r0 :: r1 :: r2 :: r3 :: r4 :: r5 :: r6 :: r7 :: r8 :: r9 :: rs)) : St w0 W (r9 :: r0 :: r1 :: r2 :: r3 :: r4 :: r5 :: r6 :: r7 :: r8 :: rs) := h.front 9 rfl
theorem St.f10 {w0 W : World} {r0 r1 r2 r3 r4 r5 r6 r7 r8 r9 r10 : Res} {rs : List Res} (h : St w0 W (r0 :: r1 :: r2 :: r3 :: r4 :: r5 :: r6 :: r7 :: r8 :: r9 :: r10 :: rs)) : St w0 W (r10 :: r0 :: r1 :: r2 :: r3 :: r4 :: r5 :: r6 :: r7 :: r8 :: r9 :: rs) := h.front 10 rfl
theorem St.f11 {w0 W : World} {r0 r1 r2 r3 r4 r5 r6 r7 r8 r9 r10 r11 : Res} {rs : List Res} (h : St w0 W (r0 :: r1 :: r2 :: r3 :: r4 :: r5 :: r6 :: r7 :: r8 :: r9 :: r10 :: r11 :: rs)) : St w0 W (r11 :: r0 :: r1 :: r2 :: r3 :: r4 :: r5 :: r6 :: r7 :: r8 :: r9 :: r10 :: rs) := h.front 11 rfl
theorem St.f12 {w0 W : World} {r0 r1 r2 r3 r4 r5 r6 r7 r8 r9 r10 r11 r12 : Res} {rs : List Res} (h : St w0 W (r0 :: r1 :: r2 :: r3 :: r4 :: r5 :: r6 :: r7 :: r8 :: r9 :: r10 :: r11 :: r12 :: rs)) : St w0 W (r12 :: r0 :: r1 :: r2 :: r3 :: r4 :: r5 :: r6 :: r7 :: r8 :: r9 :: r10 :: r11 :: rs) := h.front 12 rfl
theorem St.f13 {w0 W : World} {r0 r1 r2 r3 r4 r5 r6 r7 r8 r9 r10 r11 r12 r13 : Res} {rs : List Res} (h : St w0 W (r0 :: r1 :: r2 :: r3 :: r4 :: r5 :: r6 :: r7 :: r8 :: r9 :: r10 :: r11 :: r12 :: r13 :: rs)) : St w0 W (r13 :: r0 :: r1 :: r2 :: r3 :: r4 :: r5 :: r6 :: r7 :: r8 :: r9 :: r10 :: r11 :: r12 :: rs) := h.front 13 rfl
theorem St.f14 {w0 W : World} {r0 r1 r2 r3 r4 r5 r6 r7 r8 r9 r10 r11 r12 r13 r14 : Res} {rs : List Res} (h : St w0 W (r0 :: r1 :: r2 :: r3 :: r4 :: r5 :: r6 :: r7 :: r8 :: r9 :: r10 :: r11 :: r12 :: r13 :: r14 :: rs)) : St w0 W (r14 :: r0 :: r1 :: r2 :: r3 :: r4 :: r5 :: r6 :: r7 :: r8 :: r9 :: r10 :: r11 :: r12 :: r13 :: rs) := h.front 14 rfl
theorem St.f15 {w0 W : World} {r0 r1 r2 r3 r4 r5 r6 r7 r8 r9 r10 r11 r12 r13 r14 r15 : Res} {rs : List Res} (h : St w0 W (r0 :: r1 :: r2 :: r3 :: r4 :: r5 :: r6 :: r7 :: r8 :: r9 :: r10 :: r11 :: r12 :: r13 :: r14 :: r15 :: rs)) : St w0 W (r15 :: r0 :: r1 :: r2 :: r3 :: r4 :: r5 :: r6 :: r7 :: r8 :: r9 :: r10 :: r11 :: r12 :: r13 :: r14 :: rs) := h.front 15 rfl
theorem St.d0 {w0 W : World} {r0 : Res} {rs : List Res} (h : St w0 W (r0 :: rs)) : St w0 W (rs) := h.sub (List.eraseIdx_sublist (r0 :: rs) 0)
theorem St.d1 {w0 W : World} {r0 r1 : Res} {rs : List Res} (h : St w0 W (r0 :: r1 :: rs)) : St w0 W (r0 :: rs) := h.sub (List.eraseIdx_sublist (r0 :: r1 :: rs) 1)
theorem St.d2 {w0 W : World} {r0 r1 r2 : Res} {rs : List Res} (h : St w0 W (r0 :: r1 :: r2 :: rs)) : St w0 W (r0 :: r1 :: rs) := h.sub (List.eraseIdx_sublist (r0 :: r1 :: r2 :: rs) 2)
theorem St.d3 {w0 W : World} {r0 r1 r2 r3 : Res} {rs : List Res} (h : St w0 W (r0 :: r1 :: r2 :: r3 :: rs)) : St w0 W (r0 :: r1 :: r2 :: rs) := h.sub (List.eraseIdx_sublist (r0 :: r1 :: r2 :: r3 :: rs) 3)
theorem St.d4 {w0 W : World} {r0 r1 r2 r3 r4 : Res} {rs : List Res} (h : St w0 W (r0 :: r1 :: r2 :: r3 :: r4 :: rs)) : St w0 W (r0 :: r1 :: r2 :: r3 :: rs) := h.sub (List.eraseIdx_sublist (r0 :: r1 :: r2 :: r3 :: r4 :: rs) 4)
theorem St.d5 {w0 W : World} {r0 r1 r2 r3 r4 r5 : Res} {rs : List Res} (h : St w0 W (r0 :: r1 :: r2 :: r3 :: r4 :: r5 :: rs)) : St w0 W (r0 :: r1 :: r2 :: r3 :: r4 :: rs) := h.sub (List.eraseIdx_sublist (r0 :: r1 :: r2 :: r3 :: r4 :: r5 :: rs) 5)
theorem St.d6 {w0 W : World} {r0 r1 r2 r3 r4 r5 r6 : Res} {rs : List Res} (h : St w0 W (r0 :: r1 :: r2 :: r3 :: r4 :: r5 :: r6 :: rs)) : St w0 W (r0 :: r1 :: r2 :: r3 :: r4 :: r5 :: rs) := h.sub (List.eraseIdx_sublist (r0 :: r1 :: r2 :: r3 :: r4 :: r5 :: r6 :: rs) 6)
theorem St.d7 {w0 W : World} {r0 r1 r2 r3 r4 r5 r6 r7 : Res} {rs : List Res} (h : St w0 W (r0 :: r1 :: r2 :: r3 :: r4 :: r5 :: r6 :: r7 :: rs)) : St w0 W (r0 :: r1 :: r2 :: r3 :: r4 :: r5 :: r6 :: rs) := h.sub (List.eraseIdx_sublist (r0 :: r1 :: r2 :: r3 :: r4 :: r5 :: r6 :: r7 :: rs) 7)
theorem St.d8 {w0 W : World} {r0 r1 r2 r3 r4 r5 r6 r7 r8 : Res} {rs : List Res} (h : St w0 W (r0 :: r1 :: r2 :: r3 :: r4 :: r5 :: r6 :: r7 :: r8 :: rs)) : St w0 W (r0 :: r1 :: r2 :: r3 :: r4 :: r5 :: r6 :: r7 :: rs) := h.sub (List.eraseIdx_sublist (r0 :: r1 :: r2 :: r3 :: r4 :: r5 :: r6 :: r7 :: r8 :: rs) 8)
theorem St.d9 {w0 W : World} {r0 r1 r2 r3 r4 r5 r6 r7 r8 r9 : Res} {rs : List Res} (h : St w0 W (r0 :: r1 :: r2 :: r3 :: r4 :: r5 :: r6 :: r7 :: r8 :: r9 :: rs)) : St w0 W (r0 :: r1 :: r2 :: r3 :: r4 :: r5 :: r6 :: r7 :: r8 :: rs) := h.sub (List.eraseIdx_sublist (r0 :: r1 :: r2 :: r3 :: r4 :: r5 :: r6 :: r7 :: r8 :: r9 :: rs) 9)
theorem St.d10 {w0 W : World} {r0 r1 r2 r3 r4 r5 r6 r7 r8 r9 r10 : Res} {rs : List Res} (h : St w0 W (r0 :: r1 :: r2 :: r3 :: r4 :: r5 :: r6 :: r7 :: r8 :: r9 :: r10 :: rs)) : St w0 W (r0 :: r1 :: r2 :: r3 :: r4 :: r5 :: r6 :: r7 :: r8 :: r9 :: rs) := h.sub (List.eraseIdx_sublist (r0 :: r1 :: r2 :: r3 :: r4 :: r5 :: r6 :: r7 :: r8 :: r9 :: r10 :: rs) 10)
theorem St.d11 {w0 W : World} {r0 r1 r2 r3 r4 r5 r6 r7 r8 r9 r10 r11 : Res} {rs : List Res} (h : St w0 W (r0 :: r1 :: r2 :: r3 :: r4 :: r5 :: r6 :: r7 :: r8 :: r9 :: r10 :: r11 :: rs)) : St w0 W (r0 :: r1 :: r2 :: r3 :: r4 :: r5 :: r6 :: r7 :: r8 :: r9 :: r10 :: rs) := h.sub (List.eraseIdx_sublist (r0 :: r1 :: r2 :: r3 :: r4 :: r5 :: r6 :: r7 :: r8 :: r9 :: r10 :: r11 :: rs) 11)
theorem St.d12 {w0 W : World} {r0 r1 r2 r3 r4 r5 r6 r7 r8 r9 r10 r11 r12 : Res} {rs : List Res} (h : St w0 W (r0 :: r1 :: r2 :: r3 :: r4 :: r5 :: r6 :: r7 :: r8 :: r9 :: r10 :: r11 :: r12 :: rs)) : St w0 W (r0 :: r1 :: r2 :: r3 :: r4 :: r5 :: r6 :: r7 :: r8 :: r9 :: r10 :: r11 :: rs) := h.sub (List.eraseIdx_sublist (r0 :: r1 :: r2 :: r3 :: r4 :: r5 :: r6 :: r7 :: r8 :: r9 :: r10 :: r11 :: r12 :: rs) 12)
theorem St.d13 {w0 W : World} {r0 r1 r2 r3 r4 r5 r6 r7 r8 r9 r10 r11 r12 r13 : Res} {rs : List Res} (h : St w0 W (r0 :: r1 :: r2 :: r3 :: r4 :: r5 :: r6 :: r7 :: r8 :: r9 :: r10 :: r11 :: r12 :: r13 :: rs)) : St w0 W (r0 :: r1 :: r2 :: r3 :: r4 :: r5 :: r6 :: r7 :: r8 :: r9 :: r10 :: r11 :: r12 :: rs) := h.sub (List.eraseIdx_sublist (r0 :: r1 :: r2 :: r3 :: r4 :: r5 :: r6 :: r7 :: r8 :: r9 :: r10 :: r11 :: r12 :: r13 :: rs) 13)
theorem St.d14 {w0 W : World} {r0 r1 r2 r3 r4 r5 r6 r7 r8 r9 r10 r11 r12 r13 r14 : Res} {rs : List Res} (h : St w0 W (r0 :: r1 :: r2 :: r3 :: r4 :: r5 :: r6 :: r7 :: r8 :: r9 :: r10 :: r11 :: r12 :: r13 :: r14 :: rs)) : St w0 W (r0 :: r1 :: r2 :: r3 :: r4 :: r5 :: r6 :: r7 :: r8 :: r9 :: r10 :: r11 :: r12 :: r13 :: rs) := h.sub (List.eraseIdx_sublist (r0 :: r1 :: r2 :: r3 :: r4 :: r5 :: r6 :: r7 :: r8 :: r9 :: r10 :: r11 :: r12 :: r13 :: r14 :: rs) 14)
theorem St.d15 {w0 W : World} {r0 r1 r2 r3 r4 r5 r6 r7 r8 r9 r10 r11 r12 r13 r14 r15 : Res} {rs : List Res} (h : St w0 W (r0 :: r1 :: r2 :: r3 :: r4 :: r5 :: r6 :: r7 :: r8 :: r9 :: r10 :: r11 :: r12 :: r13 :: r14 :: r15 :: rs)) : St w0 W (r0 :: r1 :: r2 :: r3 :: r4 :: r5 :: r6 :: r7 :: r8 :: r9 :: r10 :: r11 :: r12 :: r13 :: r14 :: rs) := h.sub (List.eraseIdx_sublist (r0 :: r1 :: r2 :: r3 :: r4 :: r5 :: r6 :: r7 :: r8 :: r9 :: r10 :: r11 :: r12 :: r13 :: r14 :: r15 :: rs) 15)
theorem St.drop1 {w0 W : World} {r : Res} {rs : List Res} (h : St w0 W (r :: rs)) : St w0 W rs := h.sub (List.sublist_cons_self r rs)
theorem St.bare {w0 W : World} {rs : List Res} (h : St w0 W rs) : St w0 W [] := h.sub (List.nil_sublist _)
theorem St.only {w0 W : World} {rs : List Res} (h : St w0 W rs) (i : Nat) {r : Res} (hi : rs[i]? = some r) : St w0 W [r] :=
  h.sub (List.singleton_sublist.2 (List.mem_of_getElem? hi))
theorem St.lt {w0 W : World} {rs : List Res} (h : St w0 W rs) {r : Res} (hr : r ∈ rs) : ∀ b ∈ r.fp, b < W.heap.size := fun b hb => (r.wr (h.holds r hr) b hb).lt
/-- A call, or whatever lets alone what was there. -/
theorem St.call {w0 W W' : World} {rs rs' : List Res} (h : St w0 W rs) (k : St W W' rs') : St w0 W' (rs' ++ rs) := by
  have hk := k.below
  refine ⟨h.below.trans (hk.mono h.below.size), ?_, ?_, ?_⟩
  · rw [List.flatMap_append, List.nodup_append]
    refine ⟨k.nodup, h.nodup, ?_⟩
    intro a ha b hb e
    subst e
    obtain ⟨r, hr, hra⟩ := List.mem_flatMap.1 ha
    obtain ⟨s, hs, hsa⟩ := List.mem_flatMap.1 hb
    have := k.fresh r hr a hra
    have := h.lt hs a hsa
    omega
  · intro r hr b hb
    rcases List.mem_append.1 hr with hr | hr
    · exact Nat.le_trans h.below.size (k.fresh r hr b hb)
    · exact h.fresh r hr b hb
  · intro r hr
    rcases List.mem_append.1 hr with hr | hr
    · exact k.holds r hr
    · exact r.loc hk.size (fun b hb => hk.block b (h.lt hr b hb)) (h.holds r hr)
/-- What the first of the owned turns into, while the world is written there alone. -/
theorem St.turn {w0 W W' : World} {r r' : Res} {rs : List Res} (h : St w0 W (r :: rs)) (hos : W'.os = W.os) (htape : W'.tape = W.tape) (hout : W'.output = W.output) (hsize : W.heap.size ≤ W'.heap.size)
    (hblock : ∀ k, k < W.heap.size → k ∉ r.fp → W'.heap[k]? = W.heap[k]?) (hr : r'.holds W') (hn : r'.fp.Nodup) (hf : ∀ b ∈ r'.fp, b ∈ r.fp ∨ W.heap.size ≤ b) : St w0 W' (r' :: rs) := by
  have hfr : ∀ b ∈ r.fp, w0.heap.size ≤ b := h.fresh r (by simp)
  have hnd := h.nodup
  rw [List.flatMap_cons, List.nodup_append] at hnd
  have hlt : ∀ s ∈ rs, ∀ b ∈ s.fp, b < W.heap.size := fun s hs => h.lt (by simp [hs])
  refine ⟨⟨hos.trans h.below.os, htape.trans h.below.tape, hout.trans h.below.output, Nat.le_trans h.below.size hsize, fun k hk => ?_⟩, ?_, ?_, ?_⟩
  · rw [hblock k (Nat.lt_of_lt_of_le hk h.below.size) (fun hm => by have := hfr k hm; omega)]
    exact h.below.block k hk
  · rw [List.flatMap_cons, List.nodup_append]
    refine ⟨hn, hnd.2.1, ?_⟩
    intro a ha b hb e
    subst e
    rcases hf a ha with h1 | h1
    · exact hnd.2.2 a h1 a hb rfl
    · obtain ⟨s, hs, hsa⟩ := List.mem_flatMap.1 hb
      have := hlt s hs a hsa
      omega
  · intro s hs b hb
    rcases List.mem_cons.1 hs with rfl | hs
    · rcases hf b hb with h1 | h1
      · exact hfr b h1
      · exact Nat.le_trans h.below.size h1
    · exact h.fresh s (by simp [hs]) b hb
  · intro s hs
    rcases List.mem_cons.1 hs with rfl | hs
    · exact hr
    · refine s.loc hsize (fun b hb => hblock b (hlt s hs b hb) (fun hm => ?_)) (h.holds s (by simp [hs]))
      exact hnd.2.2 b hm b (List.mem_flatMap.2 ⟨s, hs, hb⟩) rfl

/-! ### Boxes -/
def Res.bx (b : Nat) (cs : List Value) (t : TypeId) : Res where
  fp := [b]
  holds := fun W => W.heap[b]? = some (.cells cs.toArray t (0, 0))
  loc := fun _ hb h => by rw [hb b (by simp)]; exact h
  wr := fun h c hc => by simp at hc; subst hc; exact ⟨_, _, h⟩
theorem St.alloc {w0 W : World} {rs : List Res} (h : St w0 W rs) (cs : List Value) (t : TypeId) : St w0 (W.alloc (.cells cs.toArray t)) (Res.bx W.heap.size cs t :: rs) := by
  refine h.call (rs' := [Res.bx W.heap.size cs t]) ⟨below_alloc (Below.refl _ _), by simp [Res.bx], ?_, ?_⟩
  · intro r hr b hb
    simp at hr; subst hr
    simp [Res.bx] at hb; omega
  · intro r hr
    simp at hr; subst hr
    exact heap_alloc_at _ _ _ rfl
theorem range_of_heap {W : World} {b : Nat} {cs : List Value} {t : TypeId} {fr : Nat × Nat} (h : W.heap[b]? = some (.cells cs.toArray t fr)) : W.rangeAt b 0 cs := by
  intro j v hj
  rw [cell_of_row W b (0 + j) _ t fr h, Nat.zero_add]
  simpa using hj
theorem At.of_box {α : Type} [Shape α] {W : World} {b : Nat} {cs : List Value} {t : TypeId} {x : α} {fp : List Nat} (h : (Res.bx b cs t).holds W) (hc : Shape.C W cs x fp) : At W b 0 x fp := ⟨cs, range_of_heap h, hc⟩
theorem At.cell {W : World} {b : Nat} {cs : List Value} {t : TypeId} (h : (Res.bx b cs t).holds W) (i : Nat) {v : Value} (hv : cs[i]? = some v) : W.cell? ⟨b, 0 + i, none⟩ = some v := range_of_heap h i v hv

section
variable {P : Program} {n : Nat} {f : Nat → Value} {W w0 : World} {rs : List Res} {Q : Exit → Act → World → Prop} {K : Value → World → Prop}
  {d : Option Tmp} {ty : TypeId} {pos : String} {af : Array Edge} {g : Option (Nat × Bool)}

theorem stp_box_agg {t : TypeId} {x : Operand} {cs : List Value} (hx : ev n f x = .agg cs.toArray) (hst : St w0 W rs) (k : ∀ b W', Below W.heap.size W W' → St w0 W' (Res.bx b cs t :: rs) → K (.pointer (some ⟨b, 0, none⟩)) W') :
    Stp P n ⟨d, .box t x, ty, pos, af, g⟩ f W Q K :=
  Stp.run (v := .pointer (some ⟨W.heap.size, 0, none⟩)) (W' := W.alloc (.cells cs.toArray t)) (by simp [execOp, hx, Instr.box, newVar, newRow, Sem.run_bind, Value.cells]) (k _ _ (below_alloc (Below.refl _ _)) (hst.alloc cs t))
theorem stp_box_one {t : TypeId} {x : Operand} {v : Value} (hx : ev n f x = v) (h1 : v.cells = #[v]) (hst : St w0 W rs) (k : ∀ b W', Below W.heap.size W W' → St w0 W' (Res.bx b [v] t :: rs) → K (.pointer (some ⟨b, 0, none⟩)) W') :
    Stp P n ⟨d, .box t x, ty, pos, af, g⟩ f W Q K :=
  Stp.run (v := .pointer (some ⟨W.heap.size, 0, none⟩)) (W' := W.alloc (.cells [v].toArray t)) (by simp [execOp, hx, Instr.box, newVar, newRow, Sem.run_bind, h1]) (k _ _ (below_alloc (Below.refl _ _)) (hst.alloc [v] t))
/-- The zero value of a type. -/
def ZeroOk (P : Program) (t : TypeId) (cs : List Value) : Prop := ((P.info? t).bind (·.zero)).map (·.cells.toList) = some cs
theorem stp_alloc {t : TypeId} {cs : List Value} (hz : ZeroOk P t cs) (hst : St w0 W rs) (k : ∀ b W', Below W.heap.size W W' → St w0 W' (Res.bx b cs t :: rs) → K (.pointer (some ⟨b, 0, none⟩)) W') :
    Stp P n ⟨d, .alloc t, ty, pos, af, g⟩ f W Q K := by
  unfold ZeroOk at hz
  cases hq : P.info? t with
  | none => simp [hq] at hz
  | some i =>
    cases hq2 : i.zero with
    | none => simp [hq, hq2] at hz
    | some z =>
      have hc : z.cells = cs.toArray := by simp [hq, hq2] at hz; rw [← hz]
      exact Stp.run (v := .pointer (some ⟨W.heap.size, 0, none⟩)) (W' := W.alloc (.cells cs.toArray t)) (by simp [execOp, Instr.alloc, zeroValue, typeInfo, hq, hq2, newVar, newRow, Sem.run_bind, hc]) (k _ _ (below_alloc (Below.refl _ _)) (hst.alloc cs t))
/-- A store into the box at the head of the list. -/
theorem St.store {b : Nat} {C : List Value} {t : TypeId} (hst : St w0 W (Res.bx b C t :: rs)) (o : Nat) (cs : List Value) (hle : o + cs.length ≤ C.length) : St w0 (W.setCells b o cs) (Res.bx b (splice C o cs) t :: rs) := by
  have hB : W.heap[b]? = some (.cells C.toArray t (0, 0)) := hst.get 0 rfl
  rw [setCells_blk cs o C W hB hle]
  have hbl := (Array.getElem?_eq_some_iff.1 hB).1
  refine hst.turn (r' := Res.bx b (splice C o cs) t) rfl rfl rfl (by simp [putBlk]) ?_ ?_ (by simp [Res.bx]) (fun c hc => .inl hc)
  · intro k hk hne
    have : k ≠ b := fun e => hne (by simp [Res.bx, e])
    simp [putBlk, Array.getElem?_setIfInBounds]
    intro e; exact absurd e.symm this
  · simp [Res.bx, putBlk, Array.getElem?_setIfInBounds, hbl]
theorem there_box {b : Nat} {C : List Value} {t : TypeId} (hB : (Res.bx b C t).holds W) {o k : Nat} (h : o + k ≤ C.length) : W.there b o k := by
  have hB : W.heap[b]? = some (.cells C.toArray t (0, 0)) := hB
  intro j hj
  constructor
  · simp [World.cell?, hB]; omega
  · simp [World.frozen?, hB]
theorem stp_store_agg {t t' : TypeId} {x y : Operand} {b o : Nat} {cs C C' : List Value} (hi : (P.info? t).map (·.size) = some cs.length) (hx : ev n f x = .pointer (some ⟨b, o, none⟩)) (hy : ev n f y = .agg cs.toArray) (h1 : ∀ v ∈ cs, v.oneCell' = true)
    (hst : St w0 W (Res.bx b C t' :: rs)) (hle : o + cs.length ≤ C.length) (hC : splice C o cs = C') (k : ∀ W', St w0 W' (Res.bx b C' t' :: rs) → K undef W') :
    Stp P n ⟨d, .store t x y, ty, pos, af, g⟩ f W Q K := by
  subst hC
  refine Stp.unit (W' := W.setCells b o cs) ?_ (k _ (hst.store o cs hle))
  have := run_storeAt_mid (P := P) W b o t cs.toArray (by simpa using there_box (hst.get 0 rfl) hle) (by simpa using hi) (all_oneCell_toArray h1)
  simp [execOp, hx, hy, Sem.run_bind, this]
theorem run_storeAt_one (P : Program) (W : World) (t : TypeId) (b o : Nat) (v : Value) (hi : (P.info? t).map (·.size) = some 1) (h1 : v.cells = #[v]) (h2 : v.oneCell' = true) (ht : W.there b o 1) :
    (Instr.storeAt t (.pointer (some ⟨b, o, none⟩)) v).run P W = .ok () (W.setCells b o [v]) := by
  have := run_storeCells_cells (P := P) b o [v] 0 W (fun j hj => by simpa using (ht j (by simpa using hj)).1) (fun j hj => by simpa using (ht j (by simpa using hj)).2) (fun u hu => by simp at hu; subst hu; exact h2)
  cases hq : P.info? t with
  | none => simp [hq] at hi
  | some i =>
    have hs : i.size = 1 := by simpa [hq] using hi
    simp only [Nat.add_zero] at this
    simp [Instr.storeAt, Instr.sureAddr, Sem.run_bind, storeVar, sizeOf, typeInfo, hq, hs, h1, this]
theorem stp_store_one {t t' : TypeId} {x y : Operand} {b o : Nat} {v : Value} {C C' : List Value} (hi : (P.info? t).map (·.size) = some 1) (hx : ev n f x = .pointer (some ⟨b, o, none⟩)) (hy : ev n f y = v) (h1 : v.cells = #[v]) (h2 : v.oneCell' = true)
    (hst : St w0 W (Res.bx b C t' :: rs)) (hle : o + 1 ≤ C.length) (hC : splice C o [v] = C') (k : ∀ W', St w0 W' (Res.bx b C' t' :: rs) → K undef W') :
    Stp P n ⟨d, .store t x y, ty, pos, af, g⟩ f W Q K := by
  subst hC
  refine Stp.unit (W' := W.setCells b o [v]) ?_ (k _ (hst.store o [v] hle))
  have := run_storeAt_one P W t b o v hi h1 h2 (there_box (hst.get 0 rfl) hle)
  simp [execOp, hx, hy, Sem.run_bind, this]

/-- A cell of a box. -/
theorem stp_load_bx {t t' : TypeId} {α : Type} [Shape α] [Agg α] {x : Operand} {b o i : Nat} {C : List Value} {v : Value} (hT : TyOk P t α) (ha : Agg.agg α = false) (hx : ev n f x = .pointer (some ⟨b, o, none⟩)) (hB : (Res.bx b C t').holds W) (ho : o = i) (hv : C[i]? = some v) (k : K v W) :
    Stp P n ⟨d, .load t x, ty, pos, af, g⟩ f W Q K := by
  subst ho
  have hB : W.heap[b]? = some (.cells C.toArray t' (0, 0)) := hB
  have hr : W.rangeAt b o [v] := by
    intro j u hj
    cases j with
    | zero =>
      simp at hj; subst hj
      rw [cell_of_row W b (o + 0) _ t' (0, 0) hB]
      simpa using hv
    | succ j => simp at hj
  refine Stp.run (v := v) ?_ k
  have := hT.load hr (by rw [hT.one ha]; rfl)
  simp only [val, ha, cond_false] at this
  simp [execOp, hx, Sem.run_bind, this]
/-- A struct out of a box, or a part of it. -/
theorem stp_load_bxs {t t' : TypeId} {α : Type} [Shape α] [Agg α] {x : Operand} {b o : Nat} {C cs : List Value} (hT : TyOk P t α) (ha : Agg.agg α = true) (hx : ev n f x = .pointer (some ⟨b, o, none⟩)) (hB : (Res.bx b C t').holds W) (hv : (C.drop o).take (Shape.size α) = cs) (hl : cs.length = Shape.size α) (k : K (.agg cs.toArray) W) :
    Stp P n ⟨d, .load t x, ty, pos, af, g⟩ f W Q K := by
  have hB : W.heap[b]? = some (.cells C.toArray t' (0, 0)) := hB
  have hr : W.rangeAt b o cs := by
    intro j u hj
    rw [cell_of_row W b (o + j) _ t' (0, 0) hB]
    have hjl : j < cs.length := (List.getElem?_eq_some_iff.1 hj).1
    rw [← hv, List.getElem?_take, if_pos (by omega), List.getElem?_drop] at hj
    simpa using hj
  refine Stp.run (v := .agg cs.toArray) ?_ k
  have := hT.load hr hl
  simp only [val, ha, cond_true] at this
  simp [execOp, hx, Sem.run_bind, this]

/-! ### Calls -/
theorem stp_call {F : FuncId} {xs : List Operand} {ats : Array TypeId} {av : List Value} {fn : Func} (hfn : P.funcs[F]? = some fn) (hok : ((fn.name == "runtime.NumGoroutine") || fn.body.isNone) = false) (hav : xs.map (ev n f) = av)
    (h : Calls P F av.toArray W fun e W' => ∃ v, e = .returned v ∧ K v W') : Stp P n ⟨d, .call { callee := .value (.func F), args := xs.toArray, argTypes := ats }, ty, pos, af, g⟩ f W Q K := by
  refine ⟨?_⟩
  unfold Oper.wp
  rw [act_eval]
  have hrun : (execOp (ev n f) ⟨d, .call { callee := .value (.func F), args := xs.toArray, argTypes := ats }, ty, pos, af, g⟩).run P W = .ok (.enter F av.toArray) W := by
    have e : execOp (ev n f) ⟨d, .call { callee := .value (.func F), args := xs.toArray, argTypes := ats }, ty, pos, af, g⟩ = callFunc F (#[] ++ xs.toArray.map (ev n f) ++ #[]) := rfl
    have e2 : xs.toArray.map (ev n f) = av.toArray := by rw [← hav]; simp
    rw [e, e2]
    simp only [Bool.or_eq_false_iff] at hok
    have h1 : fn.name ≠ "runtime.NumGoroutine" := by simpa using hok.1
    have h2 : fn.body ≠ none := by intro h; rw [h] at hok; cases hok.2
    simp [callFunc, hfn, h1, h2]
  rw [hrun]
  refine h.mono ?_
  rintro e W' ⟨v, rfl, hk⟩
  exact ⟨v, by rw [act_put], hk⟩

/-! ### The beginning and the end -/
theorem enter {F : FuncId} {fn : Func} {c : Code} {m : Nat} {R : Ending → World → Prop} (vs : List Value) (hf : P.funcs[F]? = some fn) (hb : fn.body = some c) (hm : fn.ntmps = m) (hl : vs.length ≤ m) (h : c.wp P (bodyPost P fn R) (act m (fun t => vs.getD t undef)) W) : Calls P F vs.toArray W R := by
  subst hm
  refine calls_of_wp hf hb ?_
  rw [act_enter fn.ntmps vs _ hl (fun t _ => rfl)]
  exact h
theorem enter1 {F : FuncId} {fn : Func} {c : Code} {m : Nat} {R : Ending → World → Prop} {v0 : Value} (hf : P.funcs[F]? = some fn) (hb : fn.body = some c) (hm : fn.ntmps = m) (hl : 1 ≤ m) (h : c.wp P (bodyPost P fn R) (act m (upd u0 0 v0)) W) : Calls P F #[v0] W R := by
  subst hm
  refine calls_of_wp hf hb ?_
  rw [act_enter fn.ntmps [v0] (upd u0 0 v0) hl (fun t _ => by cases t <;> rfl)]
  exact h
theorem enter2 {F : FuncId} {fn : Func} {c : Code} {m : Nat} {R : Ending → World → Prop} {v0 v1 : Value} (hf : P.funcs[F]? = some fn) (hb : fn.body = some c) (hm : fn.ntmps = m) (hl : 2 ≤ m) (h : c.wp P (bodyPost P fn R) (act m (upd (upd u0 0 v0) 1 v1)) W) : Calls P F #[v0, v1] W R := by
  subst hm
  refine calls_of_wp hf hb ?_
  rw [act_enter fn.ntmps [v0, v1] (upd (upd u0 0 v0) 1 v1) hl (fun t _ => by rcases t with _ | _ | t <;> rfl)]
  exact h
theorem enter3 {F : FuncId} {fn : Func} {c : Code} {m : Nat} {R : Ending → World → Prop} {v0 v1 v2 : Value} (hf : P.funcs[F]? = some fn) (hb : fn.body = some c) (hm : fn.ntmps = m) (hl : 3 ≤ m) (h : c.wp P (bodyPost P fn R) (act m (upd (upd (upd u0 0 v0) 1 v1) 2 v2)) W) : Calls P F #[v0, v1, v2] W R := by
  subst hm
  refine calls_of_wp hf hb ?_
  rw [act_enter fn.ntmps [v0, v1, v2] (upd (upd (upd u0 0 v0) 1 v1) 2 v2) hl (fun t _ => by rcases t with _ | _ | _ | t <;> rfl)]
  exact h
theorem enter4 {F : FuncId} {fn : Func} {c : Code} {m : Nat} {R : Ending → World → Prop} {v0 v1 v2 v3 : Value} (hf : P.funcs[F]? = some fn) (hb : fn.body = some c) (hm : fn.ntmps = m) (hl : 4 ≤ m) (h : c.wp P (bodyPost P fn R) (act m (upd (upd (upd (upd u0 0 v0) 1 v1) 2 v2) 3 v3)) W) : Calls P F #[v0, v1, v2, v3] W R := by
  subst hm
  refine calls_of_wp hf hb ?_
  rw [act_enter fn.ntmps [v0, v1, v2, v3] (upd (upd (upd (upd u0 0 v0) 1 v1) 2 v2) 3 v3) hl (fun t _ => by rcases t with _ | _ | _ | _ | t <;> rfl)]
  exact h
theorem ret1 {fn : Func} {t : Tmp} {v : Value} {R : Ending → World → Prop} (hr : fn.results = #[.tmp t]) (hv : ev n f (.tmp t) = v) (h : R (.returned v) W) : bodyPost P fn R .ret (act n f) W :=
  ⟨rfl, v, by rw [results_tmp hr, act_get]; exact congrArg (fun z => Result.ok z W) hv, h⟩
theorem ret2 {fn : Func} {t u : Tmp} {v1 v2 : Value} {R : Ending → World → Prop} (hr : fn.results = #[.tmp t, .tmp u]) (hv : ev n f (.tmp t) = v1) (hu : ev n f (.tmp u) = v2) (h : R (.returned (.tuple #[v1, v2])) W) : bodyPost P fn R .ret (act n f) W :=
  ⟨rfl, _, by rw [results_tmp2 hr, act_get, act_get]; exact congrArg (fun z => Result.ok z W) (show Value.tuple #[ev n f (.tmp t), ev n f (.tmp u)] = _ by rw [hv, hu]), h⟩
end
end Go.Proofs.YtchnllpegfbleaaDoor
