/-
  What a sort leaves of an owned slice of numbers.
-/
import Derived.Test.YtchnllpegfbleaaGreatBefT
import Derived.Test.YtchnllpegfbleaaGreatLend
import Derived.Shelf.Sort.Plain
namespace Go.Proofs.YtchnllpegfbleaaGreat
set_option linter.unusedSimpArgs false
set_option linter.unusedVariables false
set_option maxRecDepth 100000
open Go.RowKit Go.Sort
theorem Elems.ints_inv {W : World} : ∀ {xs : List Int} {cells : List Value} {fp : List Nat}, Elems W cells xs fp → cells = xs.map I ∧ fp = [] ∧ ∀ x ∈ xs, I64 x
  | [], _, _, ⟨h1, h2⟩ => ⟨h1, h2, by simp⟩
  | x :: xs, _, _, ⟨cs, rest, f1, f2, h1, h2, h3, h4⟩ => by
    obtain ⟨rfl, rfl, hx⟩ := h2
    obtain ⟨rfl, rfl, hxs⟩ := Elems.ints_inv h3
    subst h1 h4
    exact ⟨rfl, rfl, fun y hy => by rcases List.mem_cons.1 hy with rfl | hy; exact hx; exact hxs y hy⟩
theorem St.sorted {w0 W : World} {rs : List Res} {b off cap : Nat} {xs ys : List Int} {fp : List Nat} (h : St w0 W (Res.own (.slice (some ⟨b, off, none⟩) xs.length cap) xs fp :: rs)) (hne : xs ≠ []) (hl : ys.length = xs.length) (hm : ∀ y ∈ ys, y ∈ xs) (n : Nat) (os : Array Obj) :
    ∃ fp', St w0 (grow (putRow (Value.int .i64) (Sort.ahead W n) b off ys.toArray) os) (Res.own (.slice (some ⟨b, off, none⟩) xs.length cap) ys fp' :: rs) := by
  have hown := h.get 0 rfl
  have hwr := hown.2
  obtain ⟨ao, cap', e, h1, h2, h3⟩ := own_Sl hown
  injection e with e1 e2 e3
  subst e1 e3
  rcases h3 with ⟨h0, _⟩ | ⟨b', off', f, _, e4, rfl, hb, h3⟩
  · exact absurd h0 hne
  injection e4 with e4
  injection e4 with e5 e6
  subst e5 e6
  obtain ⟨cells, he, hr⟩ := Elems.of_at off h3
  obtain ⟨rfl, rfl, h64⟩ := he.ints_inv
  obtain ⟨C, e, hC⟩ := hwr b (by simp)
  have hdr : Holds (Value.int .i64) W b off xs.toArray := by
    intro j hj
    have hj' : j < xs.length := by simpa using hj
    refine ⟨?_, by simp [World.frozen?, hC]⟩
    rw [hr j (I xs[j]) (by simp [hj'])]
    simp [hj']
  have hC' : (grow (putRow (Value.int .i64) (Sort.ahead W n) b off ys.toArray) os).heap[b]? = some (.cells (putCells (Value.int .i64) off ys.toArray C) e (0, 0)) := by
    rw [heap_grow_old _ _ (by simpa using hb)]
    simp [putRow, mapBlock, Sort.ahead, Array.getElem?_modify, hC, onCells]
  refine ⟨[b], h.turn (r' := Res.own _ ys [b]) rfl rfl rfl (by simp [grow]) ?_ ?_ (by simp [Res.own]) (fun c hc => .inl hc)⟩
  · intro k hk hkn
    have hkb : b ≠ k := fun e => hkn (by simp [Res.own, e])
    rw [heap_grow_old _ _ (by simpa using hk)]
    simp [putRow, mapBlock, Sort.ahead, Array.getElem?_modify, hkb]
  · refine ⟨Sl.v ⟨some ⟨b, off, none⟩, cap, by rw [hl], by rw [hl]; exact h1, h2, .inr ⟨b, off, [], ?_, rfl, rfl, ?_, ?_⟩⟩, ?_⟩
    · intro e0; rw [e0] at hl; exact hne (List.eq_nil_of_length_eq_zero hl.symm)
    · exact (Array.getElem?_eq_some_iff.1 hC').1
    · refine (Elems.ints ys (fun y hy => h64 y (hm y hy))).at off ?_
      intro j u hj
      have hjl : j < ys.length := by have := (List.getElem?_eq_some_iff.1 hj).1; simpa using this
      have hu : u = I ys[j] := by simpa [hjl] using hj.symm
      have hc := cell?_putRow (Value.int .i64) (Sort.ahead W n) b off xs.toArray ys.toArray (holds_ahead _ _ _ _ _ _ hdr) (by simp [hl]) j (by simpa using hjl)
      rw [cell?_grow _ _ _ (by simpa using hb)]
      rw [hc, hu]
      simp [hjl]
    · intro c hc
      simp at hc; subst hc
      exact ⟨_, _, hC'⟩
end Go.Proofs.YtchnllpegfbleaaGreat
