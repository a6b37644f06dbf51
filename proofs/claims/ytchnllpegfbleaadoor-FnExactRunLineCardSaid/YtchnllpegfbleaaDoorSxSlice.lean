/-
  Parts of slices; appending a whole slice of plain elements; structs that are built.
-/
import Derived.Test.YtchnllpegfbleaaDoorTab
import Derived.Laws.OwnMore
namespace Go.Proofs.YtchnllpegfbleaaDoor
set_option linter.unusedSimpArgs false
set_option linter.unusedVariables false
set_option maxRecDepth 100000
open Go.RowKit

section
variable {α : Type} [Shape α]
theorem SlAt.takeN {w : World} {b : Nat} : ∀ {xs : List α} {o : Nat} {fp : List Nat} (k : Nat), SlAt w b o xs fp → ∃ f', SlAt w b o (xs.take k) f' ∧ ∀ c ∈ f', c ∈ fp
  | _, _, _, 0, _ => ⟨[], by simp [SlAt], by simp⟩
  | [], _, _, k + 1, h => ⟨[], by simp [SlAt], by simp⟩
  | x :: xs, o, fp, k + 1, ⟨cs, f1, f2, h1, h2, h3, h4⟩ => by
    obtain ⟨f', h5, h6⟩ := SlAt.takeN k h3
    subst h4
    exact ⟨f1 ++ f', ⟨cs, f1, f', h1, h2, h5, rfl⟩, fun c hc => by
      rcases List.mem_append.1 hc with hc | hc
      · simp [hc]
      · simp [h6 c hc]⟩
theorem SlAt.dropN {w : World} {b : Nat} : ∀ {xs : List α} {o : Nat} {fp : List Nat} (k : Nat), k ≤ xs.length → SlAt w b o xs fp → ∃ f', SlAt w b (o + k * Shape.size α) (xs.drop k) f' ∧ ∀ c ∈ f', c ∈ fp
  | _, _, fp, 0, _, h => ⟨fp, by simpa using h, fun _ h => h⟩
  | [], _, _, k + 1, hk, h => by simp at hk
  | x :: xs, o, fp, k + 1, hk, ⟨cs, f1, f2, h1, h2, h3, h4⟩ => by
    obtain ⟨f', h5, h6⟩ := SlAt.dropN k (by simpa using hk) h3
    subst h4
    refine ⟨f', ?_, fun c hc => by simp [h6 c hc]⟩
    rw [show o + (k + 1) * Shape.size α = o + Shape.size α + k * Shape.size α by rw [Nat.add_mul]; omega]
    exact h5
/-- A part of a slice is a slice. -/
theorem Sl.part {w : World} {v : Value} {xs : List α} {fp : List Nat} (h : Sl w v xs fp) (lo hi : Nat) (hlo : lo ≤ hi) (hhi : hi ≤ xs.length) : ∃ ao cap fp', v = .slice ao xs.length cap ∧ hi ≤ cap ∧ Sl w (sliced ao lo hi cap (Shape.size α)) ((xs.take hi).drop lo) fp' ∧ ∀ c ∈ fp', c ∈ fp := by
  obtain ⟨ao, cap, rfl, h1, h2, h3⟩ := h
  have hlen : ((xs.take hi).drop lo).length = hi - lo := by simp; omega
  by_cases he : hi = lo
  · have hnil : (xs.take hi).drop lo = [] := List.eq_nil_of_length_eq_zero (by omega)
    refine ⟨ao, cap, [], rfl, by omega, ?_, by simp⟩
    rw [hnil]
    exact ⟨if cap = lo then ao else ao.map (·.add (lo * Shape.size α)), cap - lo, by simp [sliced, he], by simp, by omega, .inl ⟨rfl, rfl⟩⟩
  · rcases h3 with ⟨rfl, _⟩ | ⟨b, off, f, hne, rfl, rfl, hb, h3⟩
    · simp at hhi; omega
    · obtain ⟨f1, a1, a2⟩ := SlAt.takeN hi h3
      obtain ⟨f2, b1, b2⟩ := SlAt.dropN lo (by simp; omega) a1
      refine ⟨_, cap, b :: f2, rfl, by omega, ⟨some ⟨b, off + lo * Shape.size α, none⟩, cap - lo, ?_, by omega, by omega, .inr ⟨b, _, f2, fun h0 => by rw [h0] at hlen; simp at hlen; omega, rfl, rfl, hb, b1⟩⟩, ?_⟩
      · have : ¬ cap = lo := by omega
        simp [sliced, this, Addr.add, hlen]
      · intro c hc
        rcases List.mem_cons.1 hc with rfl | hc
        · simp
        · simp [a2 c (b2 c hc)]
end
section
variable {P : Program} {n : Nat} {f : Nat → Value} {W w0 : World} {rs : List Res} {Q : Exit → Act → World → Prop} {K : Value → World → Prop}
  {d : Option Tmp} {ty : TypeId} {pos : String} {af : Array Go.Edge} {g : Option (Nat × Bool)} {α : Type} [Shape α]
theorem run_size {e : TypeId} {k : Nat} (h : (P.info? e).map (·.size) = some k) (W : World) : (sizeOf e).run P W = .ok k W := by
  cases hq : P.info? e with
  | none => simp [hq] at h
  | some i => simp [hq] at h; simp [sizeOf, typeInfo, hq, h]
/-- x[:h] -/
theorem stp_slice_h {w : World} {t t' : TypeId} {x y : Operand} {v : Value} {xs : List α} {fp : List Nat} {e : Int} {h : Nat} (hT : SlOk P t t' α) (hx : ev n f x = v) (hs : Sl w v xs fp) (hy : ev n f y = I e) (he : e = h) (hh : h ≤ xs.length)
    (k : ∀ v' fp', Sl w v' (xs.take h) fp' → (∀ c ∈ fp', c ∈ fp) → K v' W) : Stp P n ⟨d, .slice t x none (some y) none, ty, pos, af, g⟩ f W Q K := by
  subst he
  obtain ⟨ao, cap, fp', rfl, hcap, hs', hf⟩ := hs.part 0 h (Nat.zero_le _) hh
  have hel : P.elem t = t' := by simp [Program.elem, hT.desc]
  have hu : P.underlying t = some (.slice (P.elem t)) := by rw [hel]; exact hT.desc
  refine Stp.run (v := sliced ao 0 h cap (Shape.size α)) ?_ (k _ fp' (by simpa using hs') hf)
  simp only [execOp, hx, hy, Sem.run_bind, Option.map_none, Option.map_some]
  rw [run_sliceAt_slice (h := hu), run_slice_h (ht := hu) (h0 := by omega) (h2 := by omega), hel, run_size hT.size]
  simp
/-- x[l:] -/
theorem stp_slice_l {w : World} {t t' : TypeId} {x y : Operand} {v : Value} {xs : List α} {fp : List Nat} {e : Int} {l : Nat} (hT : SlOk P t t' α) (hx : ev n f x = v) (hs : Sl w v xs fp) (hy : ev n f y = I e) (he : e = l) (hh : l ≤ xs.length)
    (k : ∀ v' fp', Sl w v' (xs.drop l) fp' → (∀ c ∈ fp', c ∈ fp) → K v' W) : Stp P n ⟨d, .slice t x (some y) none none, ty, pos, af, g⟩ f W Q K := by
  subst he
  obtain ⟨ao, cap, fp', rfl, hcap, hs', hf⟩ := hs.part l xs.length hh (Nat.le_refl _)
  have hel : P.elem t = t' := by simp [Program.elem, hT.desc]
  have hu : P.underlying t = some (.slice (P.elem t)) := by rw [hel]; exact hT.desc
  refine Stp.run (v := sliced ao l xs.length cap (Shape.size α)) ?_ (k _ fp' (by simpa using hs') hf)
  simp only [execOp, hx, hy, Sem.run_bind, Option.map_none, Option.map_some]
  rw [run_sliceAt_slice (h := hu), run_slice_l (ht := hu) (h0 := by omega) (h1 := by omega), hel, run_size hT.size]
  simp
/-- Plain elements lead nowhere. -/
def Plain (α : Type) [Shape α] : Prop := ∀ (w : World) cs (x : α) fp, Shape.C w cs x fp → fp = []
theorem SlAt.plain (hp : Plain α) {w : World} {b : Nat} : ∀ {xs : List α} {o : Nat} {fp : List Nat}, SlAt w b o xs fp → fp = []
  | [], _, _, h => h
  | x :: xs, o, fp, ⟨cs, f1, f2, h1, h2, h3, h4⟩ => by rw [h4, hp _ _ _ _ h2, SlAt.plain hp h3]; rfl
/-- append(out, list...), of plain elements. -/
theorem stp_append_sl {w : World} {t e : TypeId} {bytes : Nat} {s x : Operand} {v u : Value} {xs ys : List α} {fy : List Nat} (hp : Plain α) (hT : ApOk P t e α bytes) (hs : ev n f s = v) (hx : ev n f x = u) (hu : Sl w u ys fy) (hb : Below w.heap.size w W)
    (hst : St w0 W (Res.row e v xs [] :: rs)) (h63 : xs.length + ys.length ≤ maxLen) (hby : (xs.length + ys.length) * bytes ≤ 140737488355328)
    (k : ∀ v' W', St w0 W' (Res.row e v' (xs ++ ys) [] :: rs) → K v' W') :
    Stp P n ⟨d, .call { callee := .builtin .append, args := #[s, x], argTypes := #[t, t] }, ty, pos, af, g⟩ f W Q K := by
  have hu' := hu.below hb
  obtain ⟨ao, cap, rfl, h1, h2, h3⟩ := hu'
  cases ao with
  | none =>
    have hys : ys = [] := by
      rcases h3 with ⟨h, _⟩ | ⟨b, off, f, _, h, _⟩
      · exact h
      · cases h
    subst hys
    obtain ⟨⟨cells, ho, he⟩, hw⟩ := hst.get 0 rfl
    obtain ⟨i, z, hi, hz, g1, g2, g3⟩ := hT.info
    have hw0 : W.ownsRow 0 e (Shape.size α) v xs.length cells := ho
    refine Stp.run (v := v) (W' := W) ?_ (by have := k v W; rw [List.append_nil] at this; exact this hst)
    simp only [execOp, resolve, invoke, builtin, Sem.run_bind, Sem.run_pure, Result.andThen_ok, List.map_toArray, List.map_cons, List.map_nil, hs, hx]
    have hr : (Builtin.append_ #[t, t] ty #[v, .slice none 0 cap]).run P W = .ok v W := by
      rcases ho.2 with ⟨rfl, _⟩ | ⟨gg, cap', cur, rfl, _, hg, hn, _, _, _⟩
      · simp [Builtin.append_, run_underlying hT.desc, sizeOf, typeInfo, hi, Builtin.lenOf, Builtin.firstCells, loadCells, loadCellsFrom]
      · simp [Builtin.append_, run_underlying hT.desc, sizeOf, typeInfo, hi, Builtin.lenOf, Builtin.firstCells, loadCells, loadCellsFrom, hn, storeCells, Addr.add]
    simp only [List.length_nil] at hr ⊢
    rw [hr]; rfl
  | some ad =>
    rcases h3 with ⟨hys, _⟩ | ⟨b, off, f', _, hao, _, hbl, hat⟩
    · subst hys
      refine stp_append hT hs hx rfl hst (news := []) (fy := []) ⟨rfl, rfl⟩ (by simp) (by simp) (by simp) (by simp) h63 hby ?_
      intro v' W' h
      exact k v' W' h
    · injection hao with hao
      subst hao
      obtain ⟨cells, hel, hr⟩ := Elems.of_at off hat
      have hf0 := SlAt.plain hp hat
      subst hf0
      refine stp_append hT hs hx rfl hst hel ?_ (by simp) (by simp) (by simp) h63 hby ?_
      · intro j u hj
        rw [Addr.add_mid]
        exact hr j u hj
      · intro v' W' h
        exact k v' W' h
/-- A struct that is built of its parts. -/
theorem stp_build {t : TypeId} {parts : List (Nat × Operand)} {vs : List (Nat × Value)} {cs : List Value} (hv : parts.map (fun (i, x) => (i, ev n f x)) = vs) (hb : (Instr.build t vs.toArray).run P W = .ok (.agg cs.toArray) W) (k : K (.agg cs.toArray) W) : Stp P n ⟨d, .build t parts.toArray, ty, pos, af, g⟩ f W Q K :=
  Stp.run (v := .agg cs.toArray) (by
    have e1 : parts.toArray.map (fun (i, x) => (i, ev n f x)) = vs.toArray := by rw [← hv]; simp
    simp only [execOp, Sem.run_bind, e1, hb]; rfl) k
end
theorem plain_flat {α : Type} [Shape α] (cells : α → List Value) (ok : α → Prop) (h : ∀ (w : World) cs (x : α) fp, Shape.C w cs x fp → cs = cells x ∧ fp = [] ∧ ok x) : Plain α := fun w cs x fp hc => (h w cs x fp hc).2.1
theorem plain_int : Plain Int := fun _ _ _ _ h => h.2.1
theorem plain_Entry : Plain Entry := fun _ _ _ _ h => h.2.1
theorem plain_Task : Plain Task := fun _ _ _ _ h => h.2.1
theorem plain_Edge : Plain Edge := fun _ _ _ _ h => h.2.1
theorem plain_Reply : Plain Reply := fun _ _ _ _ h => h.2.1
theorem plain_str : Plain ByteArray := fun _ _ _ _ h => h.2.1
end Go.Proofs.YtchnllpegfbleaaDoor
