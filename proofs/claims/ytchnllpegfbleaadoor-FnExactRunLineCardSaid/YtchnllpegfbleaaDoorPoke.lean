/-
  A store into an element of an owned slice; a made slice, all zeros.
-/
import Derived.Test.YtchnllpegfbleaaDoorSxLit
namespace Go.Proofs.YtchnllpegfbleaaDoor
set_option linter.unusedSimpArgs false
set_option linter.unusedVariables false
set_option maxRecDepth 100000
open Go.RowKit
theorem PA.same {v : Value} {k i b o b' o' : Nat} (h : PA v k i b o) (h' : PA v k i b' o') : b = b' ∧ o = o' := by
  obtain ⟨off, len, cap, rfl, _, rfl⟩ := h
  obtain ⟨off', len', cap', e, _, rfl⟩ := h'
  injection e with e1 e2 e3
  injection e1 with e1
  injection e1 with e1 e4
  subst e1 e4
  exact ⟨rfl, rfl⟩
section
variable {P : Program} {n : Nat} {f : Nat → Value} {W w0 : World} {rs : List Res} {Q : Exit → Act → World → Prop} {K : Value → World → Prop}
  {d : Option Tmp} {ty : TypeId} {pos : String} {af : Array Go.Edge} {g : Option (Nat × Bool)} {α : Type} [Shape α]
/-- One cell, that is the whole element. -/
theorem stp_poke1 {t : TypeId} {x y : Operand} {b o i : Nat} {v u : Value} {xs : List α} {z : α} {fp : List Nat} (hs : Shape.size α = 1) (hi : (P.info? t).map (·.size) = some 1) (hx : ev n f x = .pointer (some ⟨b, o, none⟩)) (hPA : PA v (Shape.size α) i b o) (hl : i < xs.length) (hy : ev n f y = u) (h1 : u.cells = #[u]) (h2 : u.oneCell' = true)
    (hst : St w0 W (Res.own v xs fp :: rs)) (hc : ∀ W, Shape.C W [u] z []) (k : ∀ fp' W', St w0 W' (Res.own v (xs.set i z) fp' :: rs) → K undef W') : Stp P n ⟨d, .store t x y, ty, pos, af, g⟩ f W Q K := by
  obtain ⟨b', e, pre, cs, post, fi, fr, hPA', hC, st⟩ := St.lend (α := α) (by omega) hst hl
  obtain ⟨rfl, rfl⟩ := hPA.same hPA'
  have hcl := Shape.len hC
  rw [hs] at hcl
  obtain ⟨c, rfl⟩ : ∃ c, cs = [c] := by
    cases cs with
    | nil => simp at hcl
    | cons c cs => cases cs with
      | nil => exact ⟨c, rfl⟩
      | cons _ _ => simp at hcl
  refine stp_store_bp (i := 0) (C' := [u]) hi hx hy h1 h2 st rfl (Nat.le_refl _) rfl ?_
  intro W' st'
  have st2 := st'.d1
  have st3 := St.cs0 (cs := [u]) (x := z) st2 (hc W')
  have st4 := st3.f1
  obtain ⟨fp', st5⟩ := St.give (α := α) st4
  exact k fp' W' st5
theorem made_list (v : Value) (m : Nat) : (madeCells #[v] m).toList = List.replicate m v := by
  apply List.ext_getElem
  · rw [Array.length_toList, size_madeCells, List.length_replicate]
  · intro j h1 h2
    rw [List.getElem_replicate, Array.getElem_toList]
    simp [madeCells, Nat.mod_one]
theorem Elems.rep {W : World} {v : Value} {z : α} (h : Shape.C W [v] z []) : ∀ m, Elems W (List.replicate m v) (List.replicate m z) []
  | 0 => ⟨rfl, rfl⟩
  | m + 1 => ⟨[v], List.replicate m v, [], [], rfl, h, Elems.rep h m, rfl⟩
/-- make, of elements of one cell: all are zero. -/
theorem stp_makeZ {t e : TypeId} {bytes : Nat} {x y : Operand} {N : Nat} {v : Value} {z : α} (hT : ApOk P t e α bytes) (hzero : ((P.info? e).bind (·.zero)).map (·.cells) = some #[v]) (hx : ev n f x = I (N : Int)) (hy : ev n f y = I (N : Int)) (hN : N ≤ 1048576 * 64) (hb : N * bytes ≤ 140737488355328) (hst : St w0 W rs) (hz : ∀ W, Shape.C W [v] z [])
    (k : ∀ b fp W', Below W.heap.size W W' → St w0 W' (Res.own (.slice (some ⟨b, 0, none⟩) N N) (List.replicate N z) fp :: rs) → K (.slice (some ⟨b, 0, none⟩) N N) W') : Stp P n ⟨d, .makeSlice t x y, ty, pos, af, g⟩ f W Q K := by
  obtain ⟨i, zz, hi, hzz, h1, h2, h3⟩ := hT.info
  have hzc : zz.cells = #[v] := by simpa [hi, hzz] using hzero
  have hs1 : Shape.size α = 1 := by rw [← h3, hzc]; rfl
  have hb' : (N : Int) * (bytes : Int) ≤ 140737488355328 := by have := Int.ofNat_le.2 hb; rw [Int.natCast_mul] at this; exact this
  have hmk := run_make (P := P) W t e i zz hT.desc hi hzz .i64 .i64 N N (by omega) (by omega) (by rw [h2, Int.mul_comm]; omega) (by omega)
  rw [Int.toNat_natCast, h1, hs1, Nat.mul_one, hzc] at hmk
  refine Stp.run (v := .slice (some ⟨W.heap.size, 0, none⟩) N N) (W' := W.alloc (.cells (madeCells #[v] N) e)) (by simp only [execOp, hx, hy, Sem.run_bind, hmk, Result.andThen_ok]; rfl) ?_
  have h := hst.alloc (madeCells #[v] N).toList e
  rw [Array.toArray_toList] at h
  have hbl : Below W.heap.size W (W.alloc (.cells (madeCells #[v] N) e)) := below_alloc (Below.refl _ _)
  have h' : St w0 (W.alloc (.cells (madeCells #[v] N) e)) (Res.bx W.heap.size (List.replicate N v) e :: rs) := by
    rw [made_list] at h; exact h
  have hr := St.row_lit (α := α) (m := N) (ys := List.replicate N z) h' (by simp) (by unfold maxLen; omega) (Elems.rep (hz _) N)
  obtain ⟨fp, hr2⟩ := hr.shut
  exact k _ fp _ hbl hr2
end
end Go.Proofs.YtchnllpegfbleaaDoor
