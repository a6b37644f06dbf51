/-
  Bytes of a string, as a slice that is appended to.
-/
import Derived.Test.YtchnllpegfbleaaDoorDecT
import Derived.Laws.IdiomStrings
namespace Go.Proofs.YtchnllpegfbleaaDoor
set_option linter.unusedSimpArgs false
set_option linter.unusedVariables false
set_option maxRecDepth 100000
open Go.RowKit
def bv (y : UInt8) : Value := .int .u8 (y.toNat : Int)
/-- A slice of bytes of the call's own, its block perhaps marked behind its cells. -/
def MRow (W : World) (e : TypeId) (v : Value) (xs : List UInt8) (lo : Nat) (no : List Nat) : Prop :=
  ∃ g cap cur fz, v = .slice (some ⟨g, 0, none⟩) xs.length cap ∧ W.heap[g]? = some (.cells cur e fz) ∧ (∀ j, j < cap → ¬ (fz.1 ≤ j ∧ j < fz.2)) ∧ xs.length ≤ cap ∧ cap ≤ maxLen ∧ cur.size = cap ∧ cur.toList.take xs.length = xs.map bv ∧ lo ≤ g ∧ g ∉ no
theorem MRow.below {W W' : World} {e : TypeId} {v : Value} {xs : List UInt8} {lo : Nat} {no : List Nat} (h : MRow W e v xs lo no) (hb : Below W.heap.size W W') : MRow W' e v xs lo no := by
  obtain ⟨g, cap, cur, fz, h1, h2, h3⟩ := h
  have hg := (Array.getElem?_eq_some_iff.1 h2).1
  exact ⟨g, cap, cur, fz, h1, by rw [hb.block g hg]; exact h2, h3⟩
theorem MRow.cons {W : World} {e : TypeId} {v : Value} {xs : List UInt8} {lo b : Nat} {no : List Nat} (h : MRow W e v xs lo no) (hb : W.heap.size ≤ b) : MRow W e v xs lo (b :: no) := by
  obtain ⟨g, cap, cur, fz, h1, h2, h3, h4, h5, h6, h7, h8, h9⟩ := h
  have hg := (Array.getElem?_eq_some_iff.1 h2).1
  exact ⟨g, cap, cur, fz, h1, h2, h3, h4, h5, h6, h7, h8, by simp only [List.mem_cons, not_or]; exact ⟨by omega, h9⟩⟩
section
variable {P : Program} {n : Nat} {f : Nat → Value} {W w0 : World} {rs : List Res} {Q : Exit → Act → World → Prop} {K : Value → World → Prop}
  {d : Option Tmp} {ty : TypeId} {pos : String} {af : Array Go.Edge} {g : Option (Nat × Bool)} {x y : Operand} {t t' e : TypeId}
theorem stp_bytesOf {s : ByteArray} {no : List Nat} (hs : P.underlying t = some .string) (hd : P.underlying t' = some (.slice e)) (he : P.underlying e = some (.int .u8)) (hx : ev n f x = .string s) (hl : s.size ≤ maxLen) (hst : St w0 W rs) (hno : ∀ b ∈ no, b < W.heap.size)
    (k : ∀ v W', Below W.heap.size W W' → St w0 W' rs → MRow W' e v s.data.toList w0.heap.size no → K v W') : Stp P n ⟨d, .convert t t' x, ty, pos, af, g⟩ f W Q K := by
  have hrun := run_bytes_of_string (P := P) W t t' e s hs hd he
  have hge := grownCap_ge W s.size 0 e
  have hcm := grownCap_le_maxLen W s.size 0 e hl
  refine Stp.run (v := _) (W' := _) (by simp only [execOp, hx, Sem.run_bind, hrun, Result.andThen_ok]; rfl) (k _ _ ?_ ?_ ?_)
  · exact ⟨rfl, rfl, rfl, by simp, fun j hj => Below.heap_alloc W.drew _ j hj⟩
  · exact hst.call (rs' := []) (St.of_below ⟨rfl, rfl, rfl, by simp, fun j hj => Below.heap_alloc W.drew _ j hj⟩)
  · have hsz : (bytesRow s (grownCap W s.size 0 e)).size = grownCap W s.size 0 e := by
      unfold bytesRow
      rw [Array.size_append, Array.size_map, Array.size_replicate]
      have : s.data.size = s.size := rfl
      omega
    have hl2 : s.data.toList.length = s.size := by rw [Array.length_toList]; rfl
    refine ⟨W.heap.size, grownCap W s.size 0 e, _, _, by rw [hl2], heap_alloc_new W.drew _, fun j hj h => by rw [hsz] at h; omega, by rw [hl2]; exact hge, hcm, hsz, ?_, hst.below.size, fun hm => by have := hno _ hm; omega⟩
    rw [hl2]
    unfold bytesRow
    rw [Array.toList_append, List.take_append_of_le_length (by rw [Array.length_toList, Array.size_map]; exact Nat.le_refl _), List.take_of_length_le (by rw [Array.length_toList, Array.size_map]; exact Nat.le_refl _), Array.toList_map]
    rfl
theorem stp_bytesBack {v : Value} {xs : List UInt8} {lo : Nat} {no : List Nat} (hs : P.underlying t = some (.slice e)) (he : P.underlying e = some (.int .u8)) (hd : P.underlying t' = some .string) (hx : ev n f x = v) (hm : MRow W e v xs lo no) (k : K (.string ⟨xs.toArray⟩) W) : Stp P n ⟨d, .convert t t' x, ty, pos, af, g⟩ f W Q K := by
  obtain ⟨g, cap, cur, fz, rfl, h2, h3, h4, h5, h6, h7, h8, h9⟩ := hm
  have hrun := run_convert_bytes_back (P := P) W t t' e ⟨g, 0, none⟩ cap xs hs he hd (fun j hj => by
    rw [Addr.add_mid, Nat.zero_add, cell_of_row W g j cur e fz h2]
    have h0 : (cur.toList.take xs.length)[j]? = (xs.map bv)[j]? := by rw [h7]
    rw [List.getElem?_take, if_pos hj, List.getElem?_map, List.getElem?_eq_getElem hj, Array.getElem?_toList] at h0
    exact h0)
  exact Stp.run (v := .string ⟨xs.toArray⟩) (by simp only [execOp, hx, Sem.run_bind, hrun, Result.andThen_ok]; rfl) k
theorem stp_sindex {s : ByteArray} {i : Int} (hu : P.underlying t = some .string) (hx : ev n f x = .string s) (hy : ev n f y = I i) (h : 0 ≤ i ∧ i < s.size) (k : K (bv (s[i.toNat]'(by omega))) W) : Stp P n ⟨d, .index t x y, ty, pos, af, g⟩ f W Q K :=
  Stp.run (v := bv (s[i.toNat]'(by omega))) (by
    have := run_index_string (P := P) (w := W) t s .i64 i hu
    rw [dif_pos h] at this
    simp only [execOp, hx, hy, Sem.run_bind, this, Result.andThen_ok]; rfl) k
/-- A literal, its block known to be new. -/
theorem stp_buildSliceF {t e : TypeId} {len : Nat} {parts : List (Nat × Operand)} {vs : List (Nat × Value)} {cs : List Value} (hv : parts.map (fun (i, x) => (i, ev n f x)) = vs) (hb : (Instr.buildSlice t len vs.toArray).run P W = .ok (.slice (some ⟨W.heap.size, 0, none⟩) len len) (W.alloc (.cells cs.toArray e)))
    (hst : St w0 W rs) (k : ∀ b W', W.heap.size ≤ b → Below W.heap.size W W' → St w0 W' (Res.bx b cs e :: rs) → K (.slice (some ⟨b, 0, none⟩) len len) W') : Stp P n ⟨d, .buildSlice t len parts.toArray, ty, pos, af, g⟩ f W Q K :=
  Stp.run (v := .slice (some ⟨W.heap.size, 0, none⟩) len len) (W' := W.alloc (.cells cs.toArray e)) (by
    have e1 : parts.toArray.map (fun (i, x) => (i, ev n f x)) = vs.toArray := by rw [← hv]; simp
    simp only [execOp, Sem.run_bind, e1, hb]; rfl) (k _ _ (Nat.le_refl _) (below_alloc (Below.refl _ _)) (hst.alloc cs e))
/-- One byte more. -/
theorem stp_append_m {s x : Operand} {v u : Value} {xs : List UInt8} {z : UInt8} {b : Nat} {no : List Nat} (hT : ApOk P t e UInt8 1) (hs : ev n f s = v) (hx : ev n f x = .slice (some ⟨b, 0, none⟩) 1 1) (hu : u = bv z)
    (hst : St w0 W (Res.bx b [u] e :: rs)) (hm : MRow W e v xs w0.heap.size (b :: no)) (hno : rs.flatMap Res.fp = no) (h63 : xs.length + 1 ≤ 1000000000)
    (k : ∀ v' W', St w0 W' rs → MRow W' e v' (xs ++ [z]) w0.heap.size no → K v' W') :
    Stp P n ⟨d, .call { callee := .builtin .append, args := #[s, x], argTypes := #[t, t] }, ty, pos, af, g⟩ f W Q K := by
  subst hu
  obtain ⟨g, cap, cur, fz, rfl, h2, h3, h4, h5, h6, h7, h8, h9⟩ := hm
  simp only [List.mem_cons, not_or] at h9
  obtain ⟨i, zz, hi, hz, h1', h2', h3'⟩ := hT.info
  have hs1 : i.size = 1 := h1'
  have hB : W.heap[b]? = some (.cells [bv z].toArray e (0, 0)) := hst.get 0 rfl
  have hnews : ∀ j u, [bv z][j]? = some u → W.cell? ((⟨b, 0, none⟩ : Addr).add j) = some u := fun j u hj => by
    rw [Addr.add_mid]; exact range_of_heap (hst.get 0 rfl) j u hj
  have hst0 := hst.d0
  have hmap : (xs ++ [z]).map bv = xs.map bv ++ [bv z] := by simp
  have hlen : (xs ++ [z]).length = xs.length + 1 := by simp
  by_cases hroom : xs.length + 1 ≤ cap
  · have hfc := run_firstCells_some (P := P) W 1 1 ⟨b, 0, none⟩ 1 1 [bv z] rfl hnews
    have hth : W.there g (xs.length) 1 := by
      intro j hj
      constructor
      · simp [World.cell?, h2]; omega
      · simp [World.frozen?, h2]
        intro hlo
        have := h3 (xs.length + j) (by omega)
        omega
    have hstc := run_storeCells_cells (P := P) g xs.length [bv z] 0 W (fun j hj => by simpa using (hth j (by simpa using hj)).1) (fun j hj => by simpa using (hth j (by simpa using hj)).2) (fun u hu => by simp at hu; subst hu; rfl)
    simp only [Nat.add_zero] at hstc
    have hrun : (Builtin.append_ #[t, t] ty #[.slice (some ⟨g, 0, none⟩) xs.length cap, .slice (some ⟨b, 0, none⟩) 1 1]).run P W = .ok (.slice (some ⟨g, 0, none⟩) (xs.length + 1) cap) (W.setCells g xs.length [bv z]) := by
      simp [Builtin.append_, run_underlying hT.desc, sizeOf, typeInfo, hi, Builtin.lenOf, hroom, hs1, hfc, Addr.add_lit, hstc]
    have hW' : (W.setCells g xs.length [bv z]).heap = W.heap.modify g (fun o => match o with | .cells c t fr => .cells (c.setIfInBounds xs.length (bv z)) t fr | o => o) := by
      rfl
    have hg' : (W.setCells g xs.length [bv z]).heap[g]? = some (.cells (cur.setIfInBounds xs.length (bv z)) e fz) := by
      rw [hW', Array.getElem?_modify, if_pos rfl, h2]; rfl
    have hoth : ∀ j, j ≠ g → (W.setCells g xs.length [bv z]).heap[j]? = W.heap[j]? := by
      intro j hj
      rw [hW', Array.getElem?_modify, if_neg (fun e => hj e.symm)]
    refine Stp.run (v := .slice (some ⟨g, 0, none⟩) (xs.length + 1) cap) (W' := W.setCells g xs.length [bv z]) (by simp only [execOp, resolve, invoke, builtin, Sem.run_bind, Sem.run_pure, Result.andThen_ok, List.map_toArray, List.map_cons, List.map_nil, hs, hx, hrun]) (k _ _ ?_ ?_)
    · have hgb := h9.2
      rw [← hno] at hgb
      refine ⟨⟨hst0.below.os, hst0.below.tape, hst0.below.output, Nat.le_trans hst0.below.size (by rw [hW', Array.size_modify]; exact Nat.le_refl _), fun j hj => ?_⟩, hst0.nodup, hst0.fresh, fun r hr => ?_⟩
      · rw [hoth j (by omega)]; exact hst0.below.block j hj
      · refine r.loc (by rw [hW', Array.size_modify]; exact Nat.le_refl _) (fun c hc => hoth c ?_) (hst0.holds r hr)
        rintro rfl
        exact hgb (List.mem_flatMap.2 ⟨r, hr, hc⟩)
    · refine ⟨g, cap, _, fz, by rw [hlen], hg', h3, by omega, h5, by rw [Array.size_setIfInBounds]; exact h6, ?_, h8, h9.2⟩
      rw [hlen, hmap, ← h7]
      have hxl : xs.length < cur.toList.length := by
        have hcl : cur.toList.length = cur.size := Array.length_toList
        omega
      rw [Array.toList_setIfInBounds, List.take_succ_eq_append_getElem (by rw [List.length_set]; exact hxl), List.getElem_set_self, List.take_set_of_le (Nat.le_refl _)]
  · have hxl : xs.length = cap := by omega
    have hrun := run_append_grow (P := P) W t ty e i zz hT.desc hi hz ⟨g, 0, none⟩ xs.length cap (xs.map bv) (by rw [List.length_map, hs1, Nat.mul_one]) (fun j u hj => by
      have hjl : j < xs.length := by have := (List.getElem?_eq_some_iff.1 hj).1; simpa using this
      rw [Addr.add_mid, Nat.zero_add, cell_of_row W g j cur e fz h2]
      have h0 : (cur.toList.take xs.length)[j]? = some u := by rw [h7]; exact hj
      rw [List.getElem?_take, if_pos hjl, Array.getElem?_toList] at h0
      exact h0) ⟨b, 0, none⟩ 1 1 [bv z] (by rw [hs1]; rfl) hnews (by omega) (by omega) (growslice_fits (by omega) (by rw [h2']; omega))
    have hge := grownCap_ge W (xs.length + 1) cap e
    have hcm := grownCap_le_maxLen W (xs.length + 1) cap e (by unfold maxLen; omega)
    refine Stp.run (v := .slice (some ⟨W.heap.size, 0, none⟩) (xs.length + 1) (grownCap W (xs.length + 1) cap e)) (W' := W.drew.alloc (.cells ((xs.map bv).toArray ++ [bv z].toArray ++ Builtin.zeroCells zz.cells (grownCap W (xs.length + 1) cap e - (xs.length + 1))) e)) (by simp only [execOp, resolve, invoke, builtin, Sem.run_bind, Sem.run_pure, Result.andThen_ok, List.map_toArray, List.map_cons, List.map_nil, hs, hx, hrun]) (k _ _ ?_ ?_)
    · exact hst0.call (rs' := []) (St.of_below ⟨rfl, rfl, rfl, by simp, fun j hj => Below.heap_alloc W.drew _ j hj⟩)
    · refine ⟨W.heap.size, grownCap W (xs.length + 1) cap e, _, (0, 0), by rw [hlen], heap_alloc_new W.drew _, fun j _ h => by simp at h, by rw [hlen]; exact hge, hcm, ?_, ?_, hst0.below.size, fun hm => ?_⟩
      · simp only [Array.size_append, List.size_toArray, size_zeroCells, h3', List.length_map, List.length_cons, List.length_nil, show Shape.size UInt8 = 1 from rfl, Nat.mul_one]
        omega
      · rw [hlen, hmap]
        simp only [Array.toList_append, List.append_assoc]
        rw [← List.append_assoc]
        have hl3 : (xs.map bv ++ [bv z]).length = xs.length + 1 := by simp
        rw [← hl3]
        exact List.take_left
      · rw [← hno] at hm
        obtain ⟨r, hr, hrb⟩ := List.mem_flatMap.1 hm
        have := hst0.lt hr _ hrb
        omega
end
end Go.Proofs.YtchnllpegfbleaaDoor
