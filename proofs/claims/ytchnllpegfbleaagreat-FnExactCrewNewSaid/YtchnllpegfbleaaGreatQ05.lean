/-
  Rows handled by their block: cap, parts, copies, and what is appended of zeros.
  When a shelf is right: of the program and of the reference.
  Copies of plans, runs, entries, yards, of both.
  An entry put on a shelf, of both.
  Bytes of strings; xor; what stands for a number, and its sum.
  The shelf of an id, of both.
  RunAt, Fresh, the entries, of the program and of the reference.
-/
import Derived.Lib.AppendZerosOnto
import Derived.Lib.Overlaps
import Derived.Laws.IdiomCopy
import Derived.Laws.IdiomStrings
import Derived.Test.YtchnllpegfbleaaGreatQ01
import Derived.Test.YtchnllpegfbleaaGreatQ02
import Derived.Test.YtchnllpegfbleaaGreatQ03
import Derived.Test.YtchnllpegfbleaaGreatQ04
namespace Go.Proofs.YtchnllpegfbleaaGreat
set_option linter.unusedSimpArgs false
set_option linter.unusedVariables false
open Go.RowKit
theorem sG {b o l h c s : Nat} (hne : l < c) : sliced (some ⟨b, o, none⟩) l h c s = .slice (some ⟨b, o + l * s, none⟩) (h - l) (c - l) := by
  have : ¬ c = l := by omega
  simp [sliced, this, Addr.add]
section
variable {P : Program} {n : Nat} {f : Nat → Value} {w0 W : World} {rs : List Res} {Q : Exit → Act → World → Prop} {d : Option Tmp} {ty : TypeId} {pos : String} {af : Array Go.Edge} {g : Option (Nat × Bool)} {K : Value → World → Prop} {α : Type} [Shape α]
theorem nM {t t' : TypeId} {x y : Operand} {b o m c l : Nat} {e : Int} (hT : SlOk P t t' α) (hx : ev n f x = .slice (some ⟨b, o, none⟩) m c) (hy : ev n f y = I e) (he : e = l) (hl : l ≤ m) (hne : l < c) (k : K (.slice (some ⟨b, o + l * Shape.size α, none⟩) (m - l) (c - l)) W) : Stp P n ⟨d, .slice t x (some y) none none, ty, pos, af, g⟩ f W Q K := by
  subst he
  have hel : P.elem t = t' := by simp [Program.elem, hT.desc]
  have hu : P.underlying t = some (.slice (P.elem t)) := by rw [hel]; exact hT.desc
  refine Stp.run (v := sliced (some ⟨b, o, none⟩) l m c (Shape.size α)) ?_ (by rw [sG hne]; exact k)
  simp only [execOp, hx, hy, Sem.run_bind, Option.map_none, Option.map_some]
  rw [run_sliceAt_slice (h := hu), run_slice_l (ht := hu) (h0 := by omega) (h1 := by omega), hel, mG hT.size]
  simp
theorem wH {t t' : TypeId} {x y : Operand} {b o m c h : Nat} {e : Int} (hT : SlOk P t t' α) (hx : ev n f x = .slice (some ⟨b, o, none⟩) m c) (hy : ev n f y = I e) (he : e = h) (hl : h ≤ c) (hc : 0 < c) (k : K (.slice (some ⟨b, o, none⟩) h c) W) : Stp P n ⟨d, .slice t x none (some y) none, ty, pos, af, g⟩ f W Q K := by
  subst he
  have hel : P.elem t = t' := by simp [Program.elem, hT.desc]
  have hu : P.underlying t = some (.slice (P.elem t)) := by rw [hel]; exact hT.desc
  refine Stp.run (v := sliced (some ⟨b, o, none⟩) 0 h c (Shape.size α)) ?_ (by rw [sG hc, Nat.zero_mul]; exact k)
  simp only [execOp, hx, hy, Sem.run_bind, Option.map_none, Option.map_some]
  rw [run_sliceAt_slice (h := hu), run_slice_h (ht := hu) (h0 := by omega) (h2 := by omega), hel, mG hT.size]
  simp
theorem stp_xlen {t t' : TypeId} {x : Operand} {ao : Option Addr} {m c : Nat} (hT : SlOk P t t' α) (hx : ev n f x = .slice ao m c) (k : K (I (m : Int)) W) : Stp P n ⟨d, .call { callee := .builtin .len, args := #[x], argTypes := #[t] }, ty, pos, af, g⟩ f W Q K := by
  refine Stp.run (v := I (m : Int)) ?_ k
  have he : P.elem t = t' := by simp [Program.elem, hT.desc]
  have hu : P.underlying t = some (.slice (P.elem t)) := by rw [he]; exact hT.desc
  simp [execOp, hx, resolve, invoke, builtin, Sem.run_bind, run_len_slice (h := hu), goInt]
theorem stp_xcap {t t' : TypeId} {x : Operand} {ao : Option Addr} {m c : Nat} (hT : SlOk P t t' α) (hx : ev n f x = .slice ao m c) (k : K (I (c : Int)) W) : Stp P n ⟨d, .call { callee := .builtin .cap, args := #[x], argTypes := #[t] }, ty, pos, af, g⟩ f W Q K := by
  refine Stp.run (v := I (c : Int)) ?_ k
  have hr : (Builtin.cap_ #[t] ty #[.slice ao m c]).run P W = .ok (I (c : Int)) W := by
    simp [Builtin.cap_, run_underlying hT.desc, goInt]
  simp [execOp, hx, resolve, invoke, builtin, Sem.run_bind, hr]
theorem run_copyK (w : World) (dT sT ty elem : TypeId) (b o dLen dCap sz : Nat) (a : Addr) (sLen sCap : Nat) (cs : List Value)
    (hu : P.underlying dT = some (.slice elem)) (hs : (P.info? elem).map (·.size) = some sz) (hn : cs.length = Nat.min sLen dLen * sz)
    (hsrc : ∀ j v, cs[j]? = some v → w.cell? (a.add j) = some v) (hc : ∀ j, j < cs.length → (w.cell? ⟨b, o + j, none⟩).isSome = true) (hf : ∀ j, j < cs.length → w.frozen? ⟨b, o + j, none⟩ = false) (h1 : ∀ v ∈ cs, v.oneCell' = true) :
    (Builtin.copy_ #[dT, sT] ty #[.slice (some ⟨b, o, none⟩) dLen dCap, .slice (some a) sLen sCap]).run P w = .ok (goInt (Nat.min sLen dLen)) (w.setCells b o cs) := by
  have hl := run_loadCells_list (P := P) w a cs hsrc
  have hst := run_storeCells_cells (P := P) b o cs 0 w (by simpa using hc) (by simpa using hf) h1
  rw [hn] at hl
  cases hq : P.info? elem with
  | none => simp [hq] at hs
  | some i =>
    have hi : i.size = sz := by simpa [hq] using hs
    simp [Builtin.copy_, run_underlying hu, Builtin.lenOf, Builtin.firstCells, sizeOf, typeInfo, hq, hi, hl, hst]
theorem mU {t e : TypeId} {x y : Operand} {b o dl dc sl sc : Nat} {a : Addr} {C cs : List Value} (hT : SlOk P t e α) (hx : ev n f x = .slice (some ⟨b, o, none⟩) dl dc) (hy : ev n f y = .slice (some a) sl sc) (hn : cs.length = Nat.min sl dl * Shape.size α)
    (hsrc : ∀ j v, cs[j]? = some v → W.cell? (a.add j) = some v) (h1 : ∀ v ∈ cs, v.oneCell' = true) (hst : St w0 W (Res.bx b C e :: rs)) (hle : o + cs.length ≤ C.length) (k : ∀ v W', St w0 W' (Res.bx b (cX C o cs) e :: rs) → K v W') :
    Stp P n ⟨d, .call { callee := .builtin .copy, args := #[x, y], argTypes := #[t, t] }, ty, pos, af, g⟩ f W Q K := by
  have hB : W.heap[b]? = some (.cells C.toArray e (0, 0)) := hst.get 0 rfl
  have hr := run_copyK (P := P) W t t ty e b o dl dc _ a sl sc cs hT.desc hT.size hn hsrc (fun j hj => by simp [World.cell?, hB]; omega) (fun j hj => by simp [World.frozen?, hB]) h1
  refine Stp.run (v := goInt (Nat.min sl dl)) (W' := W.setCells b o cs) ?_ (k _ _ (hst.store o cs hle))
  simp only [execOp, resolve, invoke, builtin, Sem.run_bind, Sem.run_pure, Result.andThen_ok, List.map_toArray, List.map_cons, List.map_nil, hx, hy, hr]
theorem stp_appz {t tn e : TypeId} {bytes : Nat} {x y : Operand} {b i c k0 n1 : Nat} {e1 : Int} {C : List Value} (hT : ApOk P t e α bytes) (htn : P.underlying tn = some (.int .i64)) (hx : ev n f x = .slice (some ⟨b, 0, none⟩) i c) (hy : ev n f y = I e1) (he1 : e1 = k0) (hn1 : i + k0 = n1) (hst : St w0 W (Res.bx b C e :: rs))
    (hC : i * Shape.size α ≤ C.length) (h0 : 0 < k0) (hg : c < n1) (h63 : n1 ≤ maxLen) (hby : n1 * bytes ≤ 140737488355328)
    (k : ∀ b2 cap Z W', n1 ≤ cap → cap ≤ maxLen → Z.length = (cap - i) * Shape.size α → Below W.heap.size W W' → St w0 W' (Res.bx b2 (C.take (i * Shape.size α) ++ Z) e :: Res.bx b C e :: rs) → K (.slice (some ⟨b2, 0, none⟩) n1 cap) W') :
    Stp P n ⟨d, .call { callee := .builtin .append, args := #[x, y], argTypes := #[t, tn] }, ty, pos, af, g⟩ f W Q K := by
  subst he1 hn1
  obtain ⟨i0, z, hi, hz, g1, g2, g3⟩ := hT.info
  have hB : W.heap[b]? = some (.cells C.toArray e (0, 0)) := hst.get 0 rfl
  have hpos := hT.pos
  have hold : (Builtin.firstCells i0.size i (.slice (some ⟨b, 0, none⟩) i c)).run P W.drew = .ok (C.take (i * Shape.size α)).toArray W.drew := by
    rw [g1]
    exact run_firstCells_some W.drew (Shape.size α) i ⟨b, 0, none⟩ i c (C.take (i * Shape.size α)) (by rw [List.length_take]; omega) (fun j v hj => by
      rw [List.getElem?_take] at hj
      split at hj
      · rw [Addr.add_mid]; exact cD (W := W.drew) hB j v hj
      · cases hj)
  have hfit : Builtin.nextslicecap (i + k0) c * i0.bytes ≤ 281474976710656 := by rw [g2]; exact growslice_fits hg hby
  have hk48 : k0 * i0.bytes ≤ 281474976710656 := by
    rw [g2]
    have : k0 * bytes ≤ (i + k0) * bytes := Nat.mul_le_mul_right _ (by omega)
    omega
  have h := Lib.run_append_grow_zeros (P := P) W t tn ty e i0 z .i64 .i64 hT.desc htn hi hz (some ⟨b, 0, none⟩) i c _ hold k0 h0 (by omega) hg (by unfold maxLen at h63; omega) hk48 hfit
  have hge := grownCap_ge W (i + k0) c e
  have hcm := grownCap_le_maxLen W (i + k0) c e h63
  refine Stp.run (v := .slice (some ⟨W.heap.size, 0, none⟩) (i + k0) (grownCap W (i + k0) c e)) (W' := W.drew.alloc (.cells ((C.take (i * Shape.size α)).toArray ++ Builtin.zeroCells z.cells k0 ++ Builtin.zeroCells z.cells (grownCap W (i + k0) c e - (i + k0))) e))
    (by simp only [execOp, resolve, invoke, builtin, Sem.run_bind, Sem.run_pure, Result.andThen_ok, List.map_toArray, List.map_cons, List.map_nil, hx, hy, h]) ?_
  have hbd : Below W.heap.size W W.drew := (Below.refl _ _).drew
  refine k W.heap.size (grownCap W (i + k0) c e) ((Builtin.zeroCells z.cells k0).toList ++ (Builtin.zeroCells z.cells (grownCap W (i + k0) c e - (i + k0))).toList) _ hge hcm ?_ ⟨rfl, rfl, rfl, by simp, fun j hj => Below.heap_alloc W.drew _ j hj⟩ ?_
  · rw [List.length_append, Array.length_toList, Array.length_toList, size_zeroCells, size_zeroCells, g3, ← Nat.add_mul]
    congr 1; omega
  · have h1 : St w0 W.drew (Res.bx b C e :: rs) := by simpa using hst.call (St.of_below hbd)
    have h2 := h1.alloc (C.take (i * Shape.size α) ++ ((Builtin.zeroCells z.cells k0).toList ++ (Builtin.zeroCells z.cells (grownCap W (i + k0) c e - (i + k0))).toList)) e
    have e5 : (C.take (i * Shape.size α) ++ ((Builtin.zeroCells z.cells k0).toList ++ (Builtin.zeroCells z.cells (grownCap W (i + k0) c e - (i + k0))).toList)).toArray = (C.take (i * Shape.size α)).toArray ++ Builtin.zeroCells z.cells k0 ++ Builtin.zeroCells z.cells (grownCap W (i + k0) c e - (i + k0)) := by
      apply Array.toList_inj.1
      simp
    rw [e5] at h2
    exact h2
theorem stp_callx {F : FuncId} {x y : Operand} {v u r : Value} {ats : Array TypeId} (hx : ev n f x = v) (hy : ev n f y = u) (h : (callFunc F #[v, u]).run P W = .ok (.value r) W) (k : K r W) : Stp P n ⟨d, .call { callee := .value (.func F), args := #[x, y], argTypes := ats }, ty, pos, af, g⟩ f W Q K :=
  Stp.run (v := r) (by
    have he : ev n f (.func F) = .func (.func F) #[] #[] := rfl
    simp only [execOp, resolve, invoke, Deferred.ofValue, he, Array.append_empty, Array.empty_append, Sem.run_bind, Sem.run_pure, Result.andThen_ok, List.map_toArray, List.map_cons, List.map_nil, hx, hy, h]) k
end
theorem St.rowOpen {α : Type} [Shape α] {w0 W : World} {rs : List Res} {e : TypeId} {v : Value} {xs : List α} (h : St w0 W (Res.row e v xs [] :: rs)) (hne : 0 < xs.length) :
    ∃ b cap C, v = .slice (some ⟨b, 0, none⟩) xs.length cap ∧ xs.length ≤ cap ∧ cap ≤ maxLen ∧ C.length = cap * Shape.size α ∧ Elems W (C.take (xs.length * Shape.size α)) xs [] ∧ St w0 W (Res.bx b C e :: rs) := by
  obtain ⟨⟨cells, ho, he⟩, _⟩ := h.get 0 rfl
  rcases ho.2 with ⟨rfl, h0⟩ | ⟨g, cap, cur, rfl, _, hg, h1, h2, h3, h4⟩
  · omega
  · refine ⟨g, cap, cur.toList, rfl, h1, h2, by rw [Array.length_toList]; exact h3, by rw [h4]; exact he, ?_⟩
    exact h.turn (r' := Res.bx g cur.toList e) rfl rfl rfl (Nat.le_refl _) (fun _ _ _ => rfl) (by show W.heap[g]? = some (.cells cur.toList.toArray e (0, 0)); simpa using hg) (by simp [Res.bx]) (fun b hb => .inl (by simpa [Res.row, Res.bx, Value.ownBlock] using hb))
theorem St.rowShut {α : Type} [Shape α] {w0 W : World} {rs : List Res} {e : TypeId} {b cap m : Nat} {C : List Value} {xs : List α} (h : St w0 W (Res.bx b C e :: rs)) (hm : xs.length = m) (h1 : m ≤ cap) (h2 : cap ≤ maxLen) (h3 : C.length = cap * Shape.size α) (h4 : Elems W (C.take (m * Shape.size α)) xs []) :
    St w0 W (Res.row e (.slice (some ⟨b, 0, none⟩) m cap) xs [] :: rs) := by
  subst hm
  have hB : W.heap[b]? = some (.cells C.toArray e (0, 0)) := h.get 0 rfl
  refine h.turn (r' := Res.row e _ xs []) rfl rfl rfl (Nat.le_refl _) (fun _ _ _ => rfl) ⟨⟨_, ⟨?_, .inr ⟨b, cap, C.toArray, rfl, Nat.zero_le _, hB, h1, h2, by simpa using h3, rfl⟩⟩, h4⟩, by simp⟩ (by simp [Res.row, Value.ownBlock]) (fun c hc => .inl (by simpa [Res.row, Res.bx, Value.ownBlock] using hc))
  rw [List.length_take, h3]
  have := Nat.mul_le_mul_right (Shape.size α) h1
  omega
theorem Elems.parts {α : Type} [Shape α] {W : World} : ∀ {xs : List α} {cells : List Value} (i : Nat), i ≤ xs.length → Elems W cells xs [] → Elems W (cells.take (i * Shape.size α)) (xs.take i) [] ∧ Elems W (cells.drop (i * Shape.size α)) (xs.drop i) []
  | xs, cells, 0, _, h => by simpa using (show Elems W [] ([] : List α) [] ∧ Elems W cells xs [] from ⟨⟨rfl, rfl⟩, h⟩)
  | x :: xs, cells, i + 1, hi, ⟨cs, rest, f1, f2, h1, h2, h3, h4⟩ => by
    have hf := List.append_eq_nil_iff.1 h4.symm
    obtain ⟨rfl, rfl⟩ := hf
    have hl := Shape.len h2
    obtain ⟨p1, p2⟩ := Elems.parts i (by simpa using hi) h3
    subst h1
    have e1 : (cs ++ rest).take ((i + 1) * Shape.size α) = cs ++ rest.take (i * Shape.size α) := by
      rw [Nat.add_mul, Nat.one_mul, Nat.add_comm, ← hl, List.take_length_add_append]
    have e2 : (cs ++ rest).drop ((i + 1) * Shape.size α) = rest.drop (i * Shape.size α) := by
      rw [Nat.add_mul, Nat.one_mul, Nat.add_comm, ← hl, List.drop_length_add_append]
    rw [e1, e2]
    exact ⟨⟨cs, _, [], [], rfl, h2, p1, rfl⟩, p2⟩
  | [], cells, i + 1, hi, _ => by simp at hi
theorem Elems.entry {W W' : World} : ∀ {xs : List Entry} {cells : List Value}, Elems W cells xs [] → Elems W' cells xs []
  | [], _, h => h
  | x :: xs, _, ⟨cs, rest, f1, f2, h1, h2, h3, h4⟩ => by
    have hf := List.append_eq_nil_iff.1 h4.symm
    obtain ⟨rfl, rfl⟩ := hf
    exact ⟨cs, rest, [], [], h1, h2, Elems.entry h3, rfl⟩
theorem rK (D : List Value) (a m : Nat) (h : a + 4 + m ≤ D.length) : ∃ B4 Bm T, D = D.take a ++ B4 ++ Bm ++ T ∧ B4.length = 4 ∧ Bm.length = m ∧ (D.take a).length = a := by
  refine ⟨(D.drop a).take 4, ((D.drop a).drop 4).take m, ((D.drop a).drop 4).drop m, ?_, by rw [List.length_take, List.length_drop]; omega, by rw [List.length_take, List.length_drop, List.length_drop]; omega, by rw [List.length_take]; omega⟩
  rw [List.append_assoc, List.append_assoc, List.take_append_drop, List.take_append_drop, List.take_append_drop]
theorem ins_in {D Y M : List Value} {a : Nat} (hY : Y.length = 4) (h : a + 4 + M.length ≤ D.length) : ∃ T, cX (cX D (a + 4) M) a Y = D.take a ++ Y ++ M ++ T := by
  obtain ⟨B4, Bm, T, hD, h4, hm, ha⟩ := rK D a M.length h
  refine ⟨T, ?_⟩
  have e1 : cX D (a + 4) M = D.take a ++ B4 ++ M ++ T := by
    have := iJ (D.take a ++ B4) Bm T M 0 (by omega)
    rw [List.length_append, ha, h4, Nat.add_zero, iK _ _ hm.symm, ← hD] at this
    exact this
  rw [e1]
  have := iJ (D.take a) B4 (M ++ T) Y 0 (by omega)
  rw [ha, Nat.add_zero, iK _ _ (by omega)] at this
  simpa [List.append_assoc] using this
theorem ins_new {D Y M : List Value} {a : Nat} (hY : Y.length = 4) (h : a + 4 + M.length ≤ D.length) : ∃ T, cX (cX D a Y) (a + 4) M = D.take a ++ Y ++ M ++ T := by
  obtain ⟨B4, Bm, T, hD, h4, hm, ha⟩ := rK D a M.length h
  refine ⟨T, ?_⟩
  have e1 : cX D a Y = D.take a ++ Y ++ Bm ++ T := by
    have := iJ (D.take a) B4 (Bm ++ T) Y 0 (by omega)
    rw [ha, Nat.add_zero, iK _ _ (by omega)] at this
    rw [show D.take a ++ B4 ++ (Bm ++ T) = D by rw [← List.append_assoc]; exact hD.symm] at this
    simpa [List.append_assoc] using this
  rw [e1]
  have := iJ (D.take a ++ Y) Bm T M 0 (by omega)
  rw [List.length_append, ha, hY, Nat.add_zero, iK _ _ hm.symm] at this
  exact this
theorem sS {W W' : World} {xs : List Entry} {y : Entry} {C C2 Y T : List Value} {k : Nat} (hk : k ≤ xs.length) (he : Elems W (C.take (xs.length * 4)) xs []) (hl : xs.length * 4 ≤ C.length) (hY : Elems W' Y [y] []) (hC2 : C2 = C.take (k * 4) ++ Y ++ (C.drop (k * 4)).take ((xs.length - k) * 4) ++ T) :
    Elems W' (C2.take ((xs.length + 1) * 4)) (xs.take k ++ y :: xs.drop k) [] := by
  obtain ⟨p1, p2⟩ := Elems.parts (α := Entry) k hk he
  have hs : Shape.size Entry = 4 := rfl
  rw [hs] at p1 p2
  have hYl : Y.length = 4 := by have := hY.len; rw [hs] at this; simpa using this
  have e1 : (C.take (xs.length * 4)).take (k * 4) = C.take (k * 4) := by rw [List.take_take, Nat.min_eq_left (by omega)]
  have e2 : (C.take (xs.length * 4)).drop (k * 4) = (C.drop (k * 4)).take ((xs.length - k) * 4) := by rw [List.drop_take, Nat.sub_mul]
  rw [e1] at p1
  rw [e2] at p2
  have hlen : (C.take (k * 4) ++ Y ++ (C.drop (k * 4)).take ((xs.length - k) * 4)).length = (xs.length + 1) * 4 := by
    rw [List.length_append, List.length_append, List.length_take, List.length_take, List.length_drop, hYl]; omega
  rw [hC2, ← hlen, List.take_left]
  have h3 := (Elems.append (Elems.append (Elems.entry (W' := W') p1) hY) (Elems.entry (W' := W') p2))
  simpa [List.append_assoc] using h3
end Go.Proofs.YtchnllpegfbleaaGreat
namespace Go.Proofs.YtchnllpegfbleaaGreat
set_option linter.unusedSimpArgs false
set_option linter.unusedVariables false
set_option maxRecDepth 100000
open Go.RowKit


def eF (a b : Entry) : Bool := decide (b.prio < a.prio) || (decide (a.prio = b.prio) && decide (a.seq < b.seq))
def mX (xs : List Entry) (k : Nat) : Prop := ∀ i, i + 1 < k → ∀ h : i + 1 < xs.length, eF xs[i] xs[i + 1] = true
noncomputable def fX (xs : List Entry) : Bool := pB (xs.length ≤ 80 ∧ mX xs xs.length)
theorem oH {xs : List Entry} {k : Nat} (hk : 1 ≤ k) (h : k < xs.length) (h0 : mX xs k) (h1 : eF (xs[k - 1]'(by omega)) xs[k] = true) : mX xs (k + 1) := by
  intro i hi hx
  by_cases h2 : i + 1 < k
  · exact h0 i h2 hx
  · have e : i = k - 1 := by omega
    subst e
    have e2 : k - 1 + 1 = k := by omega
    simp only [e2]
    exact h1
theorem pX {xs : List Entry} {k : Nat} (hk : 1 ≤ k) (h : k < xs.length) (h1 : eF (xs[k - 1]'(by omega)) xs[k] = false) : ¬ mX xs xs.length := by
  intro h0
  have := h0 (k - 1) (by omega) (by omega)
  have e2 : k - 1 + 1 = k := by omega
  simp only [e2] at this
  rw [h1] at this
  cases this

set_option maxHeartbeats 2000000 in
theorem IndexN (w : World) {v : Value} {xs : List Int} {fp : List Nat} (h : Sl w v xs fp) (y : Int) :
    Calls Tryz.prog 144 #[v, I y] w fun e w' => e = .returned (I (ixI (hG (fun x => eqB y x) xs))) ∧ St w w' [] := by
  have hcap := h.len_le
  refine cF Tryz.func144 rfl Tryz.ntmps144 (by decide) (wp_seq (aA (sg (aD (v := I 0) rfl (aE (wp_seq (wp_seq (aA (sg (aB (v := v) rfl (sg (aV dF rfl h (sg (aB (v := I 0) rfl (aE ?_)))))))))))))))
  refine wp_block (bH (fun (m : Nat) (f : Nat → Value) (W : World) => ∃ (k : Nat), k ≤ xs.length ∧ (xs.take k).any (fun x => eqB y x) = false ∧ m = xs.length - k ∧ f 0 = v ∧ f 1 = I y ∧ f 7 = I (xs.length : Int) ∧ f 8 = I (k : Int) ∧ St w W ([])) (xs.length - 0) ?_ ?_)
  · exact ⟨0, Nat.zero_le _, rfl, rfl, rfl, rfl, rfl, rfl, (St.start w)⟩
  intro m1 f2 W3 hJ4
  obtain ⟨k, hk, hany, rfl, hs6_0, hs6_1, hs6_7, hs6_8, st5⟩ := hJ4
  refine wp_seq (aA (sg (aY hs6_8 hs6_7 (aE (wp_seq (aR rfl (fun h7 => ?_) (fun h7 => ?_)))))))
  · have h7p := of_decide_eq_true h7
    refine wp_skip (wp_seq (wp_block (wp_seq (aA (sg (aB (v := I (k : Int)) hs6_8 (sg (aD (v := I (k : Int)) rfl (aE (wp_seq (aA (sg (aB (v := I y) hs6_1 (sg (aB (v := v) hs6_0 ?_)))))))))))))))
    refine sg (aB (v := I (k : Int)) rfl ?_)
    have hi51fab : k < xs.length := (by omega)
    have hq_ := idx h (i := k) hi51fab
    obtain ⟨b8, o8, cs8, f8, hp8, hr8, hc8, hm8⟩ := hq_
    have hk8 := hc8
    obtain ⟨rfl, rfl, hok8⟩ := hk8
    refine sg (aG dF rfl hp8 rfl rfl (sg (aK aJ rfl rfl hr8 st5.below (i := 0) rfl rfl (sg (bA rfl rfl (aE (aR rfl (fun h9 => ?_) (fun h9 => ?_))))))))
    · have h9p := of_decide_eq_true h9
      refine wp_seq (aA (sg (aB (v := I (k : Int)) rfl (sg (aD (v := I (k : Int)) rfl (aE (wp_ret ?_))))))); repeat first|refine aH ?_|refine aI ?_
      refine aW Tryz.results144 rfl ?_
      exact ⟨(congrArg (fun z => Ending.returned (I z)) (by rw [iZ (by omega) hany (dV h9p)]; try rfl)), st5.bare⟩
    · have h9p := of_decide_eq_false h9
      refine wp_skip (aA (sg (aP hs6_8 rfl (by (simp only [I64] at *; omega)) (sg (aB (v := I ((k : Int) + 1)) rfl (aE ?_))))))
      exact ⟨_, xs.length - (k + 1), (by omega), rfl, k + 1, (by omega), (lQ (by omega) hany (eM h9p)), rfl, hs6_0, hs6_1, hs6_7, rfl, st5⟩
  · have h7p := of_decide_eq_false h7
    refine wp_exit (wp_seq (aA (sg (aD (v := I (-1)) rfl (aE (wp_ret ?_)))))); repeat first|refine aH ?_|refine aI ?_
    refine aW Tryz.results144 rfl ?_
    obtain rfl : k = xs.length := by omega
    rw [List.take_length] at hany
    exact ⟨(congrArg (fun z => Ending.returned (I z)) (by rw [jA hany]; try rfl)), st5.bare⟩
set_option maxHeartbeats 2000000 in
theorem wX (w : World) {v : Value} {xs : List Int} {fp : List Nat} (h : Sl w v xs fp) (y : Int) :
    Calls Tryz.prog 75 #[v, I y] w fun e w' => e = .returned (.bool (decide (y ∈ xs))) ∧ St w w' [] := by
  refine cF Tryz.func75 rfl Tryz.ntmps75 (by decide) (wp_seq (aA (sg (aD (v := .bool false) rfl (aE (wp_seq (aA (sg (aB (v := v) rfl (sg (aB (v := I y) rfl (sg (aZ Tryz.func144 rfl rfl rfl ((IndexN w (h.below (Below.refl _ _)) y).mono ?_)))))))))))))); rintro _ W1 ⟨rfl, hk2⟩; refine ⟨_, rfl, ?_⟩
  have st3 := St.call (St.start w) hk2
  refine sg (gT rfl rfl (sg (aD (v := .bool (decide (0 ≤ (ixI (hG (fun x => eqB y x) xs))))) rfl (aE (wp_ret ?_))))); repeat first|refine aH ?_|refine aI ?_
  refine aW Tryz.results75 rfl ?_
  exact ⟨(congrArg (fun z => Ending.returned (.bool z)) (wI y xs)), st3.bare⟩
set_option maxHeartbeats 2000000 in
theorem wR (w : World) {a b : Entry} {cs ds : List Value} {fp gp : List Nat} (hc : Shape.C w cs a fp) (hd : Shape.C w ds b gp) :
    Calls Tryz.prog 159 #[.agg cs.toArray, .agg ds.toArray] w fun e w' => e = .returned (.bool (eF a b)) ∧ St w w' [] := by
  refine cF Tryz.func159 rfl Tryz.ntmps159 (by decide) (wp_seq (aA (sg (aQ (cs := cs) rfl (St.start w) ?_)))); intro b1 W2 hb3 st4
  refine sg (aQ (cs := ds) rfl st4 ?_); intro b6 W7 hb8 st9
  refine sg (aD (v := .bool false) rfl (aE (wp_seq (aA (sg (aC eS rfl ?_))))))
  have hk11 := hc
  obtain ⟨he11, rfl, hok11⟩ := hk11
  have he11 : _ = [I a.prio, I a.seq, I a.run, I a.task] := he11
  subst he11
  refine sg (aF aJ rfl rfl (st9.get 1 rfl) (i := 0) rfl rfl (sg (aC eS rfl ?_)))
  have hk12 := hd
  obtain ⟨he12, rfl, hok12⟩ := hk12
  have he12 : _ = [I b.prio, I b.seq, I b.run, I b.task] := he12
  subst he12
  refine sg (aF aJ rfl rfl (st9.get 0 rfl) (i := 0) rfl rfl (sg (fV rfl rfl (sg (aB (v := .bool (decide (b.prio < a.prio))) rfl ?_)))))
  rcases bd (decide (b.prio < a.prio)) with h13 | h13
  · have h13p := of_decide_eq_false h13
    refine sgo 10 rfl (by decide) (aL rfl h13) (aC eS rfl (sgo 10 rfl (by decide) (aL rfl h13) (aF aJ rfl rfl (st9.get 1 rfl) (i := 0) rfl rfl (sgo 10 rfl (by decide) (aL rfl h13) (aC eS rfl (sgo 10 rfl (by decide) (aL rfl h13) (aF aJ rfl rfl (st9.get 0 rfl) (i := 0) rfl rfl (sgo 10 rfl (by decide) (aL rfl h13) (bA rfl rfl (sgo 10 rfl (by decide) (aL rfl h13) (aB (v := .bool (decide (a.prio = b.prio))) rfl ?_)))))))))))
    rcases bd (decide (a.prio = b.prio)) with h14 | h14
    · have h14p := of_decide_eq_false h14
      iterate 5 refine sgf 16 rfl (by decide) (bF rfl h14) ?_
      refine sgo 10 rfl (by decide) (aL rfl h13) (aO (v := .bool false) ((rfl : _ = (.bool (decide (a.prio = b.prio)) : Value)).trans (congrArg Value.bool h14)) rfl (sg (aO (v := .bool false) ((rfl : _ = (.bool (decide (b.prio < a.prio)) : Value)).trans (congrArg Value.bool h13)) rfl (sg (aD (v := .bool false) rfl (aE (wp_ret ?_))))))); repeat first|refine aH ?_|refine aI ?_
      refine aW Tryz.results159 rfl ?_
      exact ⟨(congrArg (fun z => Ending.returned (.bool z)) (by unfold eF; simp only [h13, h14, decide_true, decide_false, Bool.true_or, Bool.false_or, Bool.false_and, Bool.true_and, Bool.or_false, Bool.or_true, Bool.and_true, Bool.and_false])), st9.bare⟩
    · have h14p := of_decide_eq_true h14
      refine sgo 16 rfl (by decide) (aL rfl h14) (aC eR rfl (sgo 16 rfl (by decide) (aL rfl h14) (aF aJ rfl rfl (st9.get 1 rfl) (i := 1) rfl rfl (sgo 16 rfl (by decide) (aL rfl h14) (aC eR rfl (sgo 16 rfl (by decide) (aL rfl h14) (aF aJ rfl rfl (st9.get 0 rfl) (i := 1) rfl rfl (sgo 16 rfl (by decide) (aL rfl h14) (aY rfl rfl (sgo 10 rfl (by decide) (aL rfl h13) (aN (v := .bool (decide (a.seq < b.seq))) ((rfl : _ = (.bool (decide (a.prio = b.prio)) : Value)).trans (congrArg Value.bool h14)) rfl (sg (aO (v := .bool (decide (a.seq < b.seq))) ((rfl : _ = (.bool (decide (b.prio < a.prio)) : Value)).trans (congrArg Value.bool h13)) rfl (sg (aD (v := .bool (decide (a.seq < b.seq))) rfl (aE ?_))))))))))))))))
      rcases bd (decide (a.seq < b.seq)) with h15 | h15
      · have h15p := of_decide_eq_false h15
        refine wp_ret ?_; repeat first|refine aH ?_|refine aI ?_
        refine aW Tryz.results159 ((rfl : _ = (.bool (decide (a.seq < b.seq)) : Value)).trans (congrArg Value.bool h15)) ?_
        exact ⟨(congrArg (fun z => Ending.returned (.bool z)) (by unfold eF; simp only [h13, h14, h15, decide_true, decide_false, Bool.true_or, Bool.false_or, Bool.false_and, Bool.true_and, Bool.or_false, Bool.or_true, Bool.and_true, Bool.and_false])), st9.bare⟩
      · have h15p := of_decide_eq_true h15
        refine wp_ret ?_; repeat first|refine aH ?_|refine aI ?_
        refine aW Tryz.results159 ((rfl : _ = (.bool (decide (a.seq < b.seq)) : Value)).trans (congrArg Value.bool h15)) ?_
        exact ⟨(congrArg (fun z => Ending.returned (.bool z)) (by unfold eF; simp only [h13, h14, h15, decide_true, decide_false, Bool.true_or, Bool.false_or, Bool.false_and, Bool.true_and, Bool.or_false, Bool.or_true, Bool.and_true, Bool.and_false])), st9.bare⟩
  · have h13p := of_decide_eq_true h13
    iterate 6 refine sgf 10 rfl (by decide) (bF rfl h13) ?_
    iterate 5 refine nL rfl rfl (by decide) (pD rfl) ?_
    refine sgf 10 rfl (by decide) (bF rfl h13) (sg (aN (v := .bool true) ((rfl : _ = (.bool (decide (b.prio < a.prio)) : Value)).trans (congrArg Value.bool h13)) rfl (sg (aD (v := .bool true) rfl (aE (wp_ret ?_)))))); repeat first|refine aH ?_|refine aI ?_
    refine aW Tryz.results159 rfl ?_
    exact ⟨(congrArg (fun z => Ending.returned (.bool z)) (by unfold eF; simp only [h13, decide_true, decide_false, Bool.true_or, Bool.false_or, Bool.false_and, Bool.true_and, Bool.or_false, Bool.or_true, Bool.and_true, Bool.and_false])), st9.bare⟩
set_option maxHeartbeats 2000000 in
theorem wQ (w : World) {a b : Entry} {cs ds : List Value} {fp gp : List Nat} (hc : Shape.C w cs a fp) (hd : Shape.C w ds b gp) :
    Calls Tryz.prog 211 #[.agg cs.toArray, .agg ds.toArray] w fun e w' => e = .returned (.bool (eF a b)) ∧ St w w' [] := by
  refine cF Tryz.func211 rfl Tryz.ntmps211 (by decide) (wp_seq (aA (sg (aQ (cs := cs) rfl (St.start w) ?_)))); intro b1 W2 hb3 st4
  refine sg (aQ (cs := ds) rfl st4 ?_); intro b6 W7 hb8 st9
  refine sg (aD (v := .bool false) rfl (aE (wp_seq (aA (sg (aC eS rfl ?_))))))
  have hk11 := hc
  obtain ⟨he11, rfl, hok11⟩ := hk11
  have he11 : _ = [I a.prio, I a.seq, I a.run, I a.task] := he11
  subst he11
  refine sg (aF aJ rfl rfl (st9.get 1 rfl) (i := 0) rfl rfl (sg (aC eS rfl ?_)))
  have hk12 := hd
  obtain ⟨he12, rfl, hok12⟩ := hk12
  have he12 : _ = [I b.prio, I b.seq, I b.run, I b.task] := he12
  subst he12
  refine sg (aF aJ rfl rfl (st9.get 0 rfl) (i := 0) rfl rfl (sg (fV rfl rfl (sg (aB (v := .bool (decide (b.prio < a.prio))) rfl ?_)))))
  rcases bd (decide (b.prio < a.prio)) with h13 | h13
  · have h13p := of_decide_eq_false h13
    refine sgo 10 rfl (by decide) (aL rfl h13) (aC eS rfl (sgo 10 rfl (by decide) (aL rfl h13) (aF aJ rfl rfl (st9.get 1 rfl) (i := 0) rfl rfl (sgo 10 rfl (by decide) (aL rfl h13) (aC eS rfl (sgo 10 rfl (by decide) (aL rfl h13) (aF aJ rfl rfl (st9.get 0 rfl) (i := 0) rfl rfl (sgo 10 rfl (by decide) (aL rfl h13) (bA rfl rfl (sgo 10 rfl (by decide) (aL rfl h13) (aB (v := .bool (decide (a.prio = b.prio))) rfl ?_)))))))))))
    rcases bd (decide (a.prio = b.prio)) with h14 | h14
    · have h14p := of_decide_eq_false h14
      iterate 5 refine sgf 16 rfl (by decide) (bF rfl h14) ?_
      refine sgo 10 rfl (by decide) (aL rfl h13) (aO (v := .bool false) ((rfl : _ = (.bool (decide (a.prio = b.prio)) : Value)).trans (congrArg Value.bool h14)) rfl (sg (aO (v := .bool false) ((rfl : _ = (.bool (decide (b.prio < a.prio)) : Value)).trans (congrArg Value.bool h13)) rfl (sg (aD (v := .bool false) rfl (aE (wp_ret ?_))))))); repeat first|refine aH ?_|refine aI ?_
      refine aW Tryz.results211 rfl ?_
      exact ⟨(congrArg (fun z => Ending.returned (.bool z)) (by unfold eF; simp only [h13, h14, decide_true, decide_false, Bool.true_or, Bool.false_or, Bool.false_and, Bool.true_and, Bool.or_false, Bool.or_true, Bool.and_true, Bool.and_false])), st9.bare⟩
    · have h14p := of_decide_eq_true h14
      refine sgo 16 rfl (by decide) (aL rfl h14) (aC eR rfl (sgo 16 rfl (by decide) (aL rfl h14) (aF aJ rfl rfl (st9.get 1 rfl) (i := 1) rfl rfl (sgo 16 rfl (by decide) (aL rfl h14) (aC eR rfl (sgo 16 rfl (by decide) (aL rfl h14) (aF aJ rfl rfl (st9.get 0 rfl) (i := 1) rfl rfl (sgo 16 rfl (by decide) (aL rfl h14) (aY rfl rfl (sgo 10 rfl (by decide) (aL rfl h13) (aN (v := .bool (decide (a.seq < b.seq))) ((rfl : _ = (.bool (decide (a.prio = b.prio)) : Value)).trans (congrArg Value.bool h14)) rfl (sg (aO (v := .bool (decide (a.seq < b.seq))) ((rfl : _ = (.bool (decide (b.prio < a.prio)) : Value)).trans (congrArg Value.bool h13)) rfl (sg (aD (v := .bool (decide (a.seq < b.seq))) rfl (aE ?_))))))))))))))))
      rcases bd (decide (a.seq < b.seq)) with h15 | h15
      · have h15p := of_decide_eq_false h15
        refine wp_ret ?_; repeat first|refine aH ?_|refine aI ?_
        refine aW Tryz.results211 ((rfl : _ = (.bool (decide (a.seq < b.seq)) : Value)).trans (congrArg Value.bool h15)) ?_
        exact ⟨(congrArg (fun z => Ending.returned (.bool z)) (by unfold eF; simp only [h13, h14, h15, decide_true, decide_false, Bool.true_or, Bool.false_or, Bool.false_and, Bool.true_and, Bool.or_false, Bool.or_true, Bool.and_true, Bool.and_false])), st9.bare⟩
      · have h15p := of_decide_eq_true h15
        refine wp_ret ?_; repeat first|refine aH ?_|refine aI ?_
        refine aW Tryz.results211 ((rfl : _ = (.bool (decide (a.seq < b.seq)) : Value)).trans (congrArg Value.bool h15)) ?_
        exact ⟨(congrArg (fun z => Ending.returned (.bool z)) (by unfold eF; simp only [h13, h14, h15, decide_true, decide_false, Bool.true_or, Bool.false_or, Bool.false_and, Bool.true_and, Bool.or_false, Bool.or_true, Bool.and_true, Bool.and_false])), st9.bare⟩
  · have h13p := of_decide_eq_true h13
    iterate 6 refine sgf 10 rfl (by decide) (bF rfl h13) ?_
    iterate 5 refine nL rfl rfl (by decide) (pD rfl) ?_
    refine sgf 10 rfl (by decide) (bF rfl h13) (sg (aN (v := .bool true) ((rfl : _ = (.bool (decide (b.prio < a.prio)) : Value)).trans (congrArg Value.bool h13)) rfl (sg (aD (v := .bool true) rfl (aE (wp_ret ?_)))))); repeat first|refine aH ?_|refine aI ?_
    refine aW Tryz.results211 rfl ?_
    exact ⟨(congrArg (fun z => Ending.returned (.bool z)) (by unfold eF; simp only [h13, decide_true, decide_false, Bool.true_or, Bool.false_or, Bool.false_and, Bool.true_and, Bool.or_false, Bool.or_true, Bool.and_true, Bool.and_false])), st9.bare⟩
set_option maxHeartbeats 2000000 in
theorem ShelfOkI (w : World) {v : Value} {xs : List Entry} {fp : List Nat} (h : Sl w v xs fp) :
    Calls Tryz.prog 95 #[v] w fun e w' => e = .returned (.bool (fX xs)) ∧ St w w' [] := by
  have hcap := h.len_le
  refine dU Tryz.func95 rfl Tryz.ntmps95 (by decide) (wp_seq (aA (sg (aD (v := .bool false) rfl (aE (wp_seq (wp_seq (aA (sg (aD (v := I 1) rfl (aE (wp_block (bH (fun (m : Nat) (f : Nat → Value) (W : World) => ∃ (k : Nat), 1 ≤ k ∧ (k ≤ xs.length ∨ k = 1) ∧ mX xs k ∧ m = xs.length - k ∧ f 0 = v ∧ f 3 = I (k : Int) ∧ St w W ([])) (xs.length - 1) ?_ ?_)))))))))))))
  · exact ⟨1, (by omega), (by omega), (fun i hi => by omega), rfl, rfl, rfl, (St.start w)⟩
  intro m1 f2 W3 hJ4
  obtain ⟨k, hk1, hk, hS, rfl, hs6_0, hs6_3, st5⟩ := hJ4
  refine wp_seq (wp_seq (aA (sg (aB (v := I (k : Int)) hs6_3 (sg (aB (v := v) hs6_0 (sg (aV sl_EntryS rfl h (sg (aY rfl rfl (aE (aR rfl (fun h7 => ?_) (fun h7 => ?_)))))))))))))
  · have h7p := of_decide_eq_true h7
    refine wp_skip (wp_seq (wp_block (wp_seq ?_)))
    have hid0318 : ((k : Int) - 1).toNat < xs.length := (by omega)
    have hq_ := idx h (i := ((k : Int) - 1).toNat) hid0318
    obtain ⟨b8, o8, cs8, f8, hp8, hr8, hc8, hm8⟩ := hq_
    have hk9 := hc8
    obtain ⟨he9, rfl, hok9⟩ := hk9
    have he9 : _ = [I (xs[((k : Int) - 1).toNat]'hid0318).prio, I (xs[((k : Int) - 1).toNat]'hid0318).seq, I (xs[((k : Int) - 1).toNat]'hid0318).run, I (xs[((k : Int) - 1).toNat]'hid0318).task] := he9
    subst he9
    have hi51fab : k < xs.length := (by omega)
    have hq_ := idx h (i := k) hi51fab
    obtain ⟨b10, o10, cs10, f10, hp10, hr10, hc10, hm10⟩ := hq_
    have hk11 := hc10
    obtain ⟨he11, rfl, hok11⟩ := hk11
    have he11 : _ = [I (xs[k]'hi51fab).prio, I (xs[k]'hi51fab).seq, I (xs[k]'hi51fab).run, I (xs[k]'hi51fab).task] := he11
    subst he11
    refine dI [Pl.is (v) (Sl.yl h), Pl.is (I (k : Int)), Pl.is (I ((k : Int) - 1)), Pl.is (.pointer (some ⟨b8, o8, none⟩)), Pl.is (.agg #[I (xs[((k : Int) - 1).toNat]'hid0318).prio, I (xs[((k : Int) - 1).toNat]'hid0318).seq, I (xs[((k : Int) - 1).toNat]'hid0318).run, I (xs[((k : Int) - 1).toNat]'hid0318).task]), Pl.is (v) (Sl.yl h), Pl.is (I (k : Int)), Pl.is (.pointer (some ⟨b10, o10, none⟩)), Pl.is (.agg #[I (xs[k]'hi51fab).prio, I (xs[k]'hi51fab).seq, I (xs[k]'hi51fab).run, I (xs[k]'hi51fab).task]), Pl.bool (eF (xs[((k : Int) - 1).toNat]'hid0318) (xs[k]'hi51fab)), Pl.bool (!(eF (xs[((k : Int) - 1).toNat]'hid0318) (xs[k]'hi51fab)))] mix (by rfl) st5 ⟨(fun f W hst hbl hd hf => aB (v := v) ((hf 0 rfl).trans hs6_0) brq), (fun f W hst hbl hd hf => aB (v := I (k : Int)) ((hf 3 rfl).trans hs6_3) brq), (fun f W hst hbl hd hf => fI (hd 1 11 rfl rfl) rfl (by (simp only [I64] at *; omega)) brq), (fun f W hst hbl hd hf => aG sl_EntryS (hd 0 10 rfl rfl) hp8 (hd 2 12 rfl rfl) (by omega) brq), (fun f W hst hbl hd hf => cS (cs := [I (xs[((k : Int) - 1).toNat]'hid0318).prio, I (xs[((k : Int) - 1).toNat]'hid0318).seq, I (xs[((k : Int) - 1).toNat]'hid0318).run, I (xs[((k : Int) - 1).toNat]'hid0318).task]) eA rfl (hd 3 13 rfl rfl) hr8 hst.below (i := 0) rfl rfl rfl brq), (fun f W hst hbl hd hf => aB (v := v) ((hf 0 rfl).trans hs6_0) brq), (fun f W hst hbl hd hf => aB (v := I (k : Int)) ((hf 3 rfl).trans hs6_3) brq), (fun f W hst hbl hd hf => aG sl_EntryS (hd 5 15 rfl rfl) hp10 (hd 6 16 rfl rfl) rfl brq), (fun f W hst hbl hd hf => cS (cs := [I (xs[k]'hi51fab).prio, I (xs[k]'hi51fab).seq, I (xs[k]'hi51fab).run, I (xs[k]'hi51fab).task]) eA rfl (hd 7 17 rfl rfl) hr10 hst.below (i := 0) rfl rfl rfl brq), (fun f W hst hbl hd hf => aZ Tryz.func159 rfl (hd 4 14 rfl rfl) (hd 8 18 rfl rfl) ((wR W hc8 hc10).mono (by rintro e W2 ⟨rfl, hk⟩; exact ⟨_, rfl, hk.below, rfl⟩))), (fun f W hst hbl hd hf => bO (hd 9 19 rfl rfl) brq), trivial⟩ ?_
    intro f12 W13 st14 hb15 hv16 hf17
    refine aR (hv16 10 20 (by decide) rfl) (fun h18 => ?_) (fun h18 => ?_)
    · refine wp_seq (aA (sg (aD (v := .bool false) rfl (aE (wp_ret ?_))))); repeat first|refine aH ?_|refine aI ?_
      refine aW Tryz.results95 rfl ?_
      exact ⟨(congrArg (fun z => Ending.returned (.bool z)) (by unfold fX; rw [dO (fun hz => pX (k := k) (by omega) (by omega) ((by have hz := aS h18; rw [← hz]; simp only [show ((k : Int) - 1).toNat = k - 1 by omega])) hz.2)])), st14.bare⟩
    · refine wp_skip (aA (sg (aB (v := I (k : Int)) ((hf17 3 rfl).trans hs6_3) (sg (aP rfl rfl (by (simp only [I64] at *; omega)) (sg (aD (v := I ((k : Int) + 1)) rfl (aE ?_))))))))
      exact ⟨_, xs.length - (k + 1), (by omega), rfl, k + 1, (by omega), (by omega), (oH (by omega) (by omega) hS (by have hz := aX h18; rw [← hz]; simp only [show ((k : Int) - 1).toNat = k - 1 by omega])), rfl, ((hf17 0 rfl).trans hs6_0), rfl, st14⟩
  · have h7p := of_decide_eq_false h7
    refine wp_exit (wp_seq (aA (sg (aB (v := v) hs6_0 (sg (aV sl_EntryS rfl h (sg (qH rfl rfl (sg (aD (v := .bool (decide ((xs.length : Int) ≤ 80))) rfl (aE ?_)))))))))))
    rcases bd (decide ((xs.length : Int) ≤ 80)) with h19 | h19
    · have h19p := of_decide_eq_false h19
      refine wp_ret ?_; repeat first|refine aH ?_|refine aI ?_
      refine aW Tryz.results95 ((rfl : _ = (.bool (decide ((xs.length : Int) ≤ 80)) : Value)).trans (congrArg Value.bool h19)) ?_
      exact ⟨(congrArg (fun z => Ending.returned (.bool z)) (by unfold fX; rw [dO (fun hz => by omega)])), st5.bare⟩
    · have h19p := of_decide_eq_true h19
      refine wp_ret ?_; repeat first|refine aH ?_|refine aI ?_
      refine aW Tryz.results95 ((rfl : _ = (.bool (decide ((xs.length : Int) ≤ 80)) : Value)).trans (congrArg Value.bool h19)) ?_
      exact ⟨(congrArg (fun z => Ending.returned (.bool z)) (by unfold fX; rw [gU ⟨by omega, by intro i hi hx; exact hS i (by omega) hx⟩])), st5.bare⟩
set_option maxHeartbeats 2000000 in
theorem ShelfOkS (w : World) {v : Value} {xs : List Entry} {fp : List Nat} (h : Sl w v xs fp) :
    Calls Tryz.prog 154 #[v] w fun e w' => e = .returned (.bool (fX xs)) ∧ St w w' [] := by
  have hcap := h.len_le
  refine dU Tryz.func154 rfl Tryz.ntmps154 (by decide) (wp_seq (aA (sg (aD (v := .bool false) rfl (aE (wp_seq (wp_seq (aA (sg (aB (v := v) rfl (sg (aV sl_EntryS rfl h (sg (fV rfl rfl (aE ?_)))))))))))))))
  refine aR rfl (fun h1 => ?_) (fun h1 => ?_)
  · have h1p := of_decide_eq_true h1
    refine wp_seq (aA (sg (aD (v := .bool false) rfl (aE (wp_ret ?_))))); repeat first|refine aH ?_|refine aI ?_
    refine aW Tryz.results154 rfl ?_
    exact ⟨(congrArg (fun z => Ending.returned (.bool z)) (by unfold fX; rw [dO (fun hz => by omega)])), (St.start w).bare⟩
  · have h1p := of_decide_eq_false h1
    refine wp_skip (wp_seq (wp_seq (aA (sg (aD (v := I 1) rfl (aE (wp_block (bH (fun (m : Nat) (f : Nat → Value) (W : World) => ∃ (k : Nat), 1 ≤ k ∧ (k ≤ xs.length ∨ k = 1) ∧ mX xs k ∧ m = xs.length - k ∧ f 0 = v ∧ f 3 = I (k : Int) ∧ St w W ([])) (xs.length - 1) ?_ ?_))))))))
    · exact ⟨1, (by omega), (by omega), (fun i hi => by omega), rfl, rfl, rfl, (St.start w)⟩
    intro m2 f3 W4 hJ5
    obtain ⟨k, hk1, hk, hS, rfl, hs7_0, hs7_3, st6⟩ := hJ5
    refine wp_seq (wp_seq (aA (sg (aB (v := I (k : Int)) hs7_3 (sg (aB (v := v) hs7_0 (sg (aV sl_EntryS rfl h (sg (aY rfl rfl (aE (aR rfl (fun h8 => ?_) (fun h8 => ?_)))))))))))))
    · have h8p := of_decide_eq_true h8
      refine wp_skip (wp_seq (wp_block (wp_seq ?_)))
      have hid0318 : ((k : Int) - 1).toNat < xs.length := (by omega)
      have hq_ := idx h (i := ((k : Int) - 1).toNat) hid0318
      obtain ⟨b9, o9, cs9, f9, hp9, hr9, hc9, hm9⟩ := hq_
      have hk10 := hc9
      obtain ⟨he10, rfl, hok10⟩ := hk10
      have he10 : _ = [I (xs[((k : Int) - 1).toNat]'hid0318).prio, I (xs[((k : Int) - 1).toNat]'hid0318).seq, I (xs[((k : Int) - 1).toNat]'hid0318).run, I (xs[((k : Int) - 1).toNat]'hid0318).task] := he10
      subst he10
      have hi51fab : k < xs.length := (by omega)
      have hq_ := idx h (i := k) hi51fab
      obtain ⟨b11, o11, cs11, f11, hp11, hr11, hc11, hm11⟩ := hq_
      have hk12 := hc11
      obtain ⟨he12, rfl, hok12⟩ := hk12
      have he12 : _ = [I (xs[k]'hi51fab).prio, I (xs[k]'hi51fab).seq, I (xs[k]'hi51fab).run, I (xs[k]'hi51fab).task] := he12
      subst he12
      refine dI [Pl.is (v) (Sl.yl h), Pl.is (I (k : Int)), Pl.is (I ((k : Int) - 1)), Pl.is (.pointer (some ⟨b9, o9, none⟩)), Pl.is (.agg #[I (xs[((k : Int) - 1).toNat]'hid0318).prio, I (xs[((k : Int) - 1).toNat]'hid0318).seq, I (xs[((k : Int) - 1).toNat]'hid0318).run, I (xs[((k : Int) - 1).toNat]'hid0318).task]), Pl.is (v) (Sl.yl h), Pl.is (I (k : Int)), Pl.is (.pointer (some ⟨b11, o11, none⟩)), Pl.is (.agg #[I (xs[k]'hi51fab).prio, I (xs[k]'hi51fab).seq, I (xs[k]'hi51fab).run, I (xs[k]'hi51fab).task]), Pl.bool (eF (xs[((k : Int) - 1).toNat]'hid0318) (xs[k]'hi51fab)), Pl.bool (!(eF (xs[((k : Int) - 1).toNat]'hid0318) (xs[k]'hi51fab)))] mix (by rfl) st6 ⟨(fun f W hst hbl hd hf => aB (v := v) ((hf 0 rfl).trans hs7_0) brq), (fun f W hst hbl hd hf => aB (v := I (k : Int)) ((hf 3 rfl).trans hs7_3) brq), (fun f W hst hbl hd hf => fI (hd 1 14 rfl rfl) rfl (by (simp only [I64] at *; omega)) brq), (fun f W hst hbl hd hf => aG sl_EntryS (hd 0 13 rfl rfl) hp9 (hd 2 15 rfl rfl) (by omega) brq), (fun f W hst hbl hd hf => cS (cs := [I (xs[((k : Int) - 1).toNat]'hid0318).prio, I (xs[((k : Int) - 1).toNat]'hid0318).seq, I (xs[((k : Int) - 1).toNat]'hid0318).run, I (xs[((k : Int) - 1).toNat]'hid0318).task]) eA rfl (hd 3 16 rfl rfl) hr9 hst.below (i := 0) rfl rfl rfl brq), (fun f W hst hbl hd hf => aB (v := v) ((hf 0 rfl).trans hs7_0) brq), (fun f W hst hbl hd hf => aB (v := I (k : Int)) ((hf 3 rfl).trans hs7_3) brq), (fun f W hst hbl hd hf => aG sl_EntryS (hd 5 18 rfl rfl) hp11 (hd 6 19 rfl rfl) rfl brq), (fun f W hst hbl hd hf => cS (cs := [I (xs[k]'hi51fab).prio, I (xs[k]'hi51fab).seq, I (xs[k]'hi51fab).run, I (xs[k]'hi51fab).task]) eA rfl (hd 7 20 rfl rfl) hr11 hst.below (i := 0) rfl rfl rfl brq), (fun f W hst hbl hd hf => aZ Tryz.func211 rfl (hd 4 17 rfl rfl) (hd 8 21 rfl rfl) ((wQ W hc9 hc11).mono (by rintro e W2 ⟨rfl, hk⟩; exact ⟨_, rfl, hk.below, rfl⟩))), (fun f W hst hbl hd hf => bO (hd 9 22 rfl rfl) brq), trivial⟩ ?_
      intro f13 W14 st15 hb16 hv17 hf18
      refine aR (hv17 10 23 (by decide) rfl) (fun h19 => ?_) (fun h19 => ?_)
      · refine wp_seq (aA (sg (aD (v := .bool false) rfl (aE (wp_ret ?_))))); repeat first|refine aH ?_|refine aI ?_
        refine aW Tryz.results154 rfl ?_
        exact ⟨(congrArg (fun z => Ending.returned (.bool z)) (by unfold fX; rw [dO (fun hz => pX (k := k) (by omega) (by omega) ((by have hz := aS h19; rw [← hz]; simp only [show ((k : Int) - 1).toNat = k - 1 by omega])) hz.2)])), st15.bare⟩
      · refine wp_skip (aA (sg (aB (v := I (k : Int)) ((hf18 3 rfl).trans hs7_3) (sg (aP rfl rfl (by (simp only [I64] at *; omega)) (sg (aD (v := I ((k : Int) + 1)) rfl (aE ?_))))))))
        exact ⟨_, xs.length - (k + 1), (by omega), rfl, k + 1, (by omega), (by omega), (oH (by omega) (by omega) hS (by have hz := aX h19; rw [← hz]; simp only [show ((k : Int) - 1).toNat = k - 1 by omega])), rfl, ((hf18 0 rfl).trans hs7_0), rfl, st15⟩
    · have h8p := of_decide_eq_false h8
      refine wp_exit (wp_seq (aA (sg (aD (v := .bool true) rfl (aE (wp_ret ?_)))))); repeat first|refine aH ?_|refine aI ?_
      refine aW Tryz.results154 rfl ?_
      exact ⟨(congrArg (fun z => Ending.returned (.bool z)) (by unfold fX; rw [gU ⟨by omega, by intro i hi hx; exact hS i (by omega) hx⟩])), st6.bare⟩
end Go.Proofs.YtchnllpegfbleaaGreat
namespace Go.Proofs.YtchnllpegfbleaaGreat
set_option linter.unusedSimpArgs false
set_option linter.unusedVariables false
set_option maxRecDepth 100000
open Go.RowKit


theorem sZ (xs : List (List Entry)) (k : Nat) (h : k < xs.length) : xs.take k ++ [xs[k]] = xs.take (k + 1) := (List.take_succ_eq_append_getElem h).symm
theorem uG (xs : List Run) (k : Nat) (h : k < xs.length) : xs.take k ++ [xs[k]] = xs.take (k + 1) := (List.take_succ_eq_append_getElem h).symm
theorem sH (y : Yard) (k : Nat) (h : k < y.shelf.length) : y.shelf[k].length + y.shelf.length ≤ y.wt := by
  unfold Yard.wt wtL
  have := nY (fun z : List Entry => z.length) y.shelf k h
  omega

set_option maxHeartbeats 2000000 in
theorem iT (w : World) {v : Value} {xs : List Entry} {fp : List Nat} (h : Sl w v xs fp) (hw : xs.length ≤ 1048576) :
    Calls Tryz.prog 174 #[v] w fun e w' => ∃ (v' : Value), e = .returned v' ∧ St w w' [Res.row 131 v' xs []] := by
  refine dU Tryz.func174 rfl Tryz.ntmps174 (by decide) (wp_seq (aA (sg (aD (v := .slice none 0 0) rfl (aE (wp_seq (aA (sg (aB (v := v) rfl ?_)))))))))
  have st1 := (St.start w).row_nil (α := Entry) 131
  refine sg (eJ gQ dX rfl rfl h (Below.refl _ _) st1 (by simp only [List.length_nil]; unfold maxLen; omega) (by simp only [List.length_nil]; omega) ?_); intro v3 W4 st5
  refine sg (aD (v := v3) rfl (aE (wp_ret ?_))); repeat first|refine aH ?_|refine aI ?_
  refine aW Tryz.results174 rfl ?_
  exact ⟨_, rfl, st5.only 0 rfl⟩
set_option maxHeartbeats 2000000 in
theorem CopyPlanI (w : World) {p : Plan} {cs : List Value} {fp : List Nat} (hc : Shape.C w cs p fp) (hw : p.wt ≤ 1048576) :
    Calls Tryz.prog 222 #[.agg cs.toArray] w fun e w' => ∃ (cs' : List Value) (fp' : List Nat), e = .returned (.agg cs'.toArray) ∧ St w w' [Res.own (.agg cs'.toArray) p fp'] := by
  have hw2 : p.edges.length ≤ 1048576 := hw
  refine dU Tryz.func222 rfl Tryz.ntmps222 (by decide) (wp_seq (aA (sg (aQ (cs := cs) rfl (St.start w) ?_)))); intro b1 W2 hb3 st4
  refine sg (bN qF st4 ?_); intro b6 W7 hb8 st9
  refine aE (wp_seq (aA (sg (aC dK rfl ?_))))
  have hk11 := hc
  obtain ⟨v11_0, g11_0, rfl, hok11, h11_0, rfl⟩ := hk11
  refine sg (aF eB rfl rfl (st9.get 1 rfl) (i := 4) rfl rfl ?_)
  have st12 := st9.row_nil (α := Edge) 176
  refine sg (eJ qY oZ rfl rfl h11_0 st12.below st12 (by simp only [List.length_nil]; unfold maxLen; omega) (by simp only [List.length_nil]; omega) ?_); intro v14 W15 st16
  refine sg (aC dK rfl ?_)
  have st17 := st16.f2
  refine sg (bK (v := v14) (C' := [I p.prio, I p.most, I p.wait, I p.tasks, v14]) (by kernel_rfl) rfl rfl (Sl.cells (dL (st17.get 1 rfl))) (Sl.one (dL (st17.get 1 rfl))) st17 (Nat.le_of_ble_eq_true rfl) rfl ?_); intro W18 st19
  refine aE (wp_seq (aA (sg (aU (cs := [I p.prio, I p.most, I p.wait, I p.tasks, v14]) fY rfl rfl (st19.get 0 rfl) rfl rfl ?_))))
  have st20 := st19.f2
  refine sg (bT (cs := [I p.prio, I p.most, I p.wait, I p.tasks, v14]) (C' := [I p.prio, I p.most, I p.wait, I p.tasks, v14]) (by kernel_rfl) rfl rfl (aM rfl (aM rfl (aM rfl (aM rfl (aM (Sl.one (dL (st20.get 2 rfl))) dW))))) st20 (Nat.le_of_ble_eq_true rfl) rfl ?_); intro W21 st22
  refine aE (wp_ret ?_); repeat first|refine aH ?_|refine aI ?_
  refine iE fY rfl Tryz.results222 rfl (st22.get 0 rfl) rfl ?_
  have st23 := st22.f2
  have hq_ := st23.shut
  obtain ⟨fp25, st24⟩ := hq_
  have st26 := pL (x := p) st24 (by first | exact True.intro | (simp only [Edge.ok, Plan.ok, Entry.ok, Task.ok, Run.ok, Yard.ok, Reply.ok, Deed.ok, Note.ok, Wait.ok, File.ok, Disk.ok, Engine.ok, WorldD.ok, ActD.ok, Hand.ok, Span.ok, Crew.ok, View.ok, I64] at *; omega))
  exact ⟨_, _, rfl, st26.only 0 rfl⟩
set_option maxHeartbeats 2000000 in
theorem CopyPlanS (w : World) {p : Plan} {cs : List Value} {fp : List Nat} (hc : Shape.C w cs p fp) (hw : p.wt ≤ 1048576) :
    Calls Tryz.prog 193 #[.agg cs.toArray] w fun e w' => ∃ (cs' : List Value) (fp' : List Nat), e = .returned (.agg cs'.toArray) ∧ St w w' [Res.own (.agg cs'.toArray) p fp'] := by
  have hw2 : p.edges.length ≤ 1048576 := hw
  refine dU Tryz.func193 rfl Tryz.ntmps193 (by decide) (wp_seq (aA (sg (aQ (cs := cs) rfl (St.start w) ?_)))); intro b1 W2 hb3 st4
  refine sg (bN qF st4 ?_); intro b6 W7 hb8 st9
  refine aE (wp_seq (aA (sg (bR (cs := []) (e := 176) gK (eQ oZ _) st9 ?_)))); intro b11 W12 hb13 st14
  have st14 := st14.row_empty (α := Edge)
  refine sg (aC dK rfl ?_)
  have hk16 := hc
  obtain ⟨v16_0, g16_0, rfl, hok16, h16_0, rfl⟩ := hk16
  refine sg (aF eB rfl rfl (st14.get 2 rfl) (i := 4) rfl rfl (sg (eJ qY oZ rfl rfl h16_0 st14.below st14 (by simp only [List.length_nil]; unfold maxLen; omega) (by simp only [List.length_nil]; omega) ?_))); intro v17 W18 st19
  refine sg (aC dK rfl ?_)
  have st20 := st19.f2
  refine sg (bK (v := v17) (C' := [I p.prio, I p.most, I p.wait, I p.tasks, v17]) (by kernel_rfl) rfl rfl (Sl.cells (dL (st20.get 1 rfl))) (Sl.one (dL (st20.get 1 rfl))) st20 (Nat.le_of_ble_eq_true rfl) rfl ?_); intro W21 st22
  refine aE (wp_seq (aA (sg (aU (cs := [I p.prio, I p.most, I p.wait, I p.tasks, v17]) fY rfl rfl (st22.get 0 rfl) rfl rfl ?_))))
  have st23 := st22.f2
  refine sg (bT (cs := [I p.prio, I p.most, I p.wait, I p.tasks, v17]) (C' := [I p.prio, I p.most, I p.wait, I p.tasks, v17]) (by kernel_rfl) rfl rfl (aM rfl (aM rfl (aM rfl (aM rfl (aM (Sl.one (dL (st23.get 2 rfl))) dW))))) st23 (Nat.le_of_ble_eq_true rfl) rfl ?_); intro W24 st25
  refine aE (wp_ret ?_); repeat first|refine aH ?_|refine aI ?_
  refine iE fY rfl Tryz.results193 rfl (st25.get 0 rfl) rfl ?_
  have st26 := st25.f2
  have hq_ := st26.shut
  obtain ⟨fp28, st27⟩ := hq_
  have st29 := pL (x := p) st27 (by first | exact True.intro | (simp only [Edge.ok, Plan.ok, Entry.ok, Task.ok, Run.ok, Yard.ok, Reply.ok, Deed.ok, Note.ok, Wait.ok, File.ok, Disk.ok, Engine.ok, WorldD.ok, ActD.ok, Hand.ok, Span.ok, Crew.ok, View.ok, I64] at *; omega))
  exact ⟨_, _, rfl, st29.only 0 rfl⟩
set_option maxHeartbeats 2000000 in
theorem CopyRunI (w : World) {r : Run} {cs : List Value} {fp : List Nat} (hc : Shape.C w cs r fp) (hw : r.wt ≤ 1048576) :
    Calls Tryz.prog 175 #[.agg cs.toArray] w fun e w' => ∃ (cs' : List Value) (fp' : List Nat), e = .returned (.agg cs'.toArray) ∧ St w w' [Res.own (.agg cs'.toArray) r fp'] := by
  have hw2 : r.plan.wt + r.tasks.length ≤ 1048576 := hw
  refine dU Tryz.func175 rfl Tryz.ntmps175 (by decide) (wp_seq (aA (sg (aQ (cs := cs) rfl (St.start w) ?_)))); intro b1 W2 hb3 st4
  refine sg (bN jI st4 ?_); intro b6 W7 hb8 st9
  refine aE (wp_seq (aA (sg (aC cQ rfl ?_))))
  have hk11 := hc
  obtain ⟨v11_0, v11_1, g11_0, g11_1, rfl, hok11, h11_0, h11_1, rfl⟩ := hk11
  refine sg (aU (cs := [I r.plan.prio, I r.plan.most, I r.plan.wait, I r.plan.tasks, v11_0]) fY rfl rfl (st9.get 1 rfl) rfl rfl (sg (bI Tryz.func222 rfl rfl ((CopyPlanI W7 (show Shape.C _ [I r.plan.prio, I r.plan.most, I r.plan.wait, I r.plan.tasks, v11_0] r.plan _ from ⟨_, _, rfl, (by first | exact True.intro | (simp only [Edge.ok, Plan.ok, Entry.ok, Task.ok, Run.ok, Yard.ok, Reply.ok, Deed.ok, Note.ok, Wait.ok, File.ok, Disk.ok, Engine.ok, WorldD.ok, ActD.ok, Hand.ok, Span.ok, Crew.ok, View.ok, I64] at *; omega)), (h11_0.below st9.below), rfl⟩) (by omega)).mono ?_)))); rintro _ W14 ⟨cs12, fp12, rfl, hk15⟩; refine ⟨_, rfl, ?_⟩
  have st16 := St.call st9 hk15
  refine sg (aC cQ rfl ?_)
  have hq_ := pO st16
  obtain ⟨v18_0, g18_0, he18, hok18, st19⟩ := hq_
  subst he18
  have st21 := st19.f2
  refine sg (bT (cs := [I r.plan.prio, I r.plan.most, I r.plan.wait, I r.plan.tasks, v18_0]) (C' := [I r.id, I r.plan.prio, I r.plan.most, I r.plan.wait, I r.plan.tasks, v18_0, I r.state, v11_1]) (by kernel_rfl) rfl rfl (aM rfl (aM rfl (aM rfl (aM rfl (aM (Sl.one (bC (st21.get 1 rfl))) dW))))) st21 (Nat.le_of_ble_eq_true rfl) rfl ?_); intro W22 st23
  refine aE (wp_seq (aA (sg (aC bJ rfl (sg (aF bM rfl rfl (st23.get 0 rfl) (i := 7) rfl rfl ?_))))))
  have st24 := st23.row_nil (α := Task) 140
  refine sg (eJ qX oX rfl rfl h11_1 st24.below st24 (by simp only [List.length_nil]; unfold maxLen; omega) (by simp only [List.length_nil]; omega) ?_); intro v26 W27 st28
  refine sg (aC bJ rfl ?_)
  have st29 := st28.f1
  refine sg (bK (v := v26) (C' := [I r.id, I r.plan.prio, I r.plan.most, I r.plan.wait, I r.plan.tasks, v18_0, I r.state, v26]) (by kernel_rfl) rfl rfl (Sl.cells (dL (st29.get 1 rfl))) (Sl.one (dL (st29.get 1 rfl))) st29 (Nat.le_of_ble_eq_true rfl) rfl ?_); intro W30 st31
  refine aE (wp_seq (aA (sg (aU (cs := [I r.id, I r.plan.prio, I r.plan.most, I r.plan.wait, I r.plan.tasks, v18_0, I r.state, v26]) cY rfl rfl (st31.get 0 rfl) rfl rfl ?_))))
  have st32 := st31.f3
  refine sg (bT (cs := [I r.id, I r.plan.prio, I r.plan.most, I r.plan.wait, I r.plan.tasks, v18_0, I r.state, v26]) (C' := [I r.id, I r.plan.prio, I r.plan.most, I r.plan.wait, I r.plan.tasks, v18_0, I r.state, v26]) (by kernel_rfl) rfl rfl (aM rfl (aM rfl (aM rfl (aM rfl (aM rfl (aM (Sl.one (bC (st32.get 3 rfl))) (aM rfl (aM (Sl.one (dL (st32.get 2 rfl))) dW)))))))) st32 (Nat.le_of_ble_eq_true rfl) rfl ?_); intro W33 st34
  refine aE (wp_ret ?_); repeat first|refine aH ?_|refine aI ?_
  refine iE cY rfl Tryz.results175 rfl (st34.get 0 rfl) rfl ?_
  have st35 := st34.f2
  have hq_ := st35.shut
  obtain ⟨fp37, st36⟩ := hq_
  have st38 := st36.f3
  have st39 := hL (x := r) st38 (by first | exact True.intro | (simp only [Edge.ok, Plan.ok, Entry.ok, Task.ok, Run.ok, Yard.ok, Reply.ok, Deed.ok, Note.ok, Wait.ok, File.ok, Disk.ok, Engine.ok, WorldD.ok, ActD.ok, Hand.ok, Span.ok, Crew.ok, View.ok, I64] at *; omega))
  exact ⟨_, _, rfl, st39.only 0 rfl⟩
set_option maxHeartbeats 2000000 in
theorem vD (w : World) {r : Run} {cs : List Value} {fp : List Nat} (hc : Shape.C w cs r fp) (hw : r.wt ≤ 1048576) :
    Calls Tryz.prog 136 #[.agg cs.toArray] w fun e w' => ∃ (cs' : List Value) (fp' : List Nat), e = .returned (.agg cs'.toArray) ∧ St w w' [Res.own (.agg cs'.toArray) r fp'] := by
  have hw2 : r.plan.wt + r.tasks.length ≤ 1048576 := hw
  refine dU Tryz.func136 rfl Tryz.ntmps136 (by decide) (wp_seq (aA (sg (aQ (cs := cs) rfl (St.start w) ?_)))); intro b1 W2 hb3 st4
  refine sg (bN jI st4 ?_); intro b6 W7 hb8 st9
  refine aE (wp_seq (aA (sg (aC cQ rfl ?_))))
  have hk11 := hc
  obtain ⟨v11_0, v11_1, g11_0, g11_1, rfl, hok11, h11_0, h11_1, rfl⟩ := hk11
  refine sg (aU (cs := [I r.plan.prio, I r.plan.most, I r.plan.wait, I r.plan.tasks, v11_0]) fY rfl rfl (st9.get 1 rfl) rfl rfl (sg (bI Tryz.func193 rfl rfl ((CopyPlanS W7 (show Shape.C _ [I r.plan.prio, I r.plan.most, I r.plan.wait, I r.plan.tasks, v11_0] r.plan _ from ⟨_, _, rfl, (by first | exact True.intro | (simp only [Edge.ok, Plan.ok, Entry.ok, Task.ok, Run.ok, Yard.ok, Reply.ok, Deed.ok, Note.ok, Wait.ok, File.ok, Disk.ok, Engine.ok, WorldD.ok, ActD.ok, Hand.ok, Span.ok, Crew.ok, View.ok, I64] at *; omega)), (h11_0.below st9.below), rfl⟩) (by omega)).mono ?_)))); rintro _ W14 ⟨cs12, fp12, rfl, hk15⟩; refine ⟨_, rfl, ?_⟩
  have st16 := St.call st9 hk15
  refine sg (aC cQ rfl ?_)
  have hq_ := pO st16
  obtain ⟨v18_0, g18_0, he18, hok18, st19⟩ := hq_
  subst he18
  have st21 := st19.f2
  refine sg (bT (cs := [I r.plan.prio, I r.plan.most, I r.plan.wait, I r.plan.tasks, v18_0]) (C' := [I r.id, I r.plan.prio, I r.plan.most, I r.plan.wait, I r.plan.tasks, v18_0, I r.state, v11_1]) (by kernel_rfl) rfl rfl (aM rfl (aM rfl (aM rfl (aM rfl (aM (Sl.one (bC (st21.get 1 rfl))) dW))))) st21 (Nat.le_of_ble_eq_true rfl) rfl ?_); intro W22 st23
  refine aE (wp_seq (aA (sg (bR (cs := []) (e := 140) gK (eQ oX _) st23 ?_)))); intro b24 W25 hb26 st27
  have st27 := st27.row_empty (α := Task)
  refine sg (aC bJ rfl (sg (aF bM rfl rfl (st27.get 1 rfl) (i := 7) rfl rfl (sg (eJ qX oX rfl rfl h11_1 st27.below st27 (by simp only [List.length_nil]; unfold maxLen; omega) (by simp only [List.length_nil]; omega) ?_))))); intro v29 W30 st31
  refine sg (aC bJ rfl ?_)
  have st32 := st31.f1
  refine sg (bK (v := v29) (C' := [I r.id, I r.plan.prio, I r.plan.most, I r.plan.wait, I r.plan.tasks, v18_0, I r.state, v29]) (by kernel_rfl) rfl rfl (Sl.cells (dL (st32.get 1 rfl))) (Sl.one (dL (st32.get 1 rfl))) st32 (Nat.le_of_ble_eq_true rfl) rfl ?_); intro W33 st34
  refine aE (wp_seq (aA (sg (aU (cs := [I r.id, I r.plan.prio, I r.plan.most, I r.plan.wait, I r.plan.tasks, v18_0, I r.state, v29]) cY rfl rfl (st34.get 0 rfl) rfl rfl ?_))))
  have st35 := st34.f3
  refine sg (bT (cs := [I r.id, I r.plan.prio, I r.plan.most, I r.plan.wait, I r.plan.tasks, v18_0, I r.state, v29]) (C' := [I r.id, I r.plan.prio, I r.plan.most, I r.plan.wait, I r.plan.tasks, v18_0, I r.state, v29]) (by kernel_rfl) rfl rfl (aM rfl (aM rfl (aM rfl (aM rfl (aM rfl (aM (Sl.one (bC (st35.get 3 rfl))) (aM rfl (aM (Sl.one (dL (st35.get 2 rfl))) dW)))))))) st35 (Nat.le_of_ble_eq_true rfl) rfl ?_); intro W36 st37
  refine aE (wp_ret ?_); repeat first|refine aH ?_|refine aI ?_
  refine iE cY rfl Tryz.results136 rfl (st37.get 0 rfl) rfl ?_
  have st38 := st37.f2
  have hq_ := st38.shut
  obtain ⟨fp40, st39⟩ := hq_
  have st41 := st39.f3
  have st42 := hL (x := r) st41 (by first | exact True.intro | (simp only [Edge.ok, Plan.ok, Entry.ok, Task.ok, Run.ok, Yard.ok, Reply.ok, Deed.ok, Note.ok, Wait.ok, File.ok, Disk.ok, Engine.ok, WorldD.ok, ActD.ok, Hand.ok, Span.ok, Crew.ok, View.ok, I64] at *; omega))
  exact ⟨_, _, rfl, st42.only 0 rfl⟩
set_option maxHeartbeats 2000000 in
theorem CopyYardI (w : World) {y : Yard} {cs : List Value} {fp : List Nat} (hc : Shape.C w cs y fp) (hw : y.wt ≤ 1048576) :
    Calls Tryz.prog 108 #[.agg cs.toArray] w fun e w' => ∃ (cs' : List Value) (fp' : List Nat), e = .returned (.agg cs'.toArray) ∧ St w w' [Res.own (.agg cs'.toArray) y fp'] := by
  have hys : y.shelf.length + y.runs.length ≤ y.wt := by unfold Yard.wt wtL; omega
  refine dU Tryz.func108 rfl Tryz.ntmps108 (by decide) (wp_seq (aA (sg (aQ (cs := cs) rfl (St.start w) ?_)))); intro b1 W2 hb3 st4
  refine sg (bN hZ st4 ?_); intro b6 W7 hb8 st9
  refine aE (wp_seq (aA (sg (aC fE rfl ?_))))
  have hk11 := hc
  obtain ⟨v11_0, v11_1, g11_0, g11_1, rfl, hok11, h11_0, h11_1, rfl⟩ := hk11
  refine sg (aF aJ rfl rfl (st9.get 1 rfl) (i := 0) rfl rfl (sg (aC eN rfl (sg (aF aJ rfl rfl (st9.get 1 rfl) (i := 1) rfl rfl (sg (gJ (vs := [(0, I y.now), (1, I y.seq)]) (cs := [I y.now, I y.seq, .slice none 0 0, .slice none 0 0]) (eG (v := I y.now) rfl (eG (v := I y.seq) rfl gK)) (by kernel_rfl) (sg (bN hZ st9 ?_))))))))); intro b12 W13 hb14 st15
  refine sg (bT (cs := [I y.now, I y.seq, .slice none 0 0, .slice none 0 0]) (C' := [I y.now, I y.seq, .slice none 0 0, .slice none 0 0]) (by kernel_rfl) rfl rfl (aM rfl (aM rfl (aM rfl (aM rfl dW)))) st15 (Nat.le_of_ble_eq_true rfl) rfl ?_); intro W17 st18
  refine aE (wp_seq (wp_seq (aA (sg (aC dG rfl (sg (aF dE rfl rfl (st18.get 2 rfl) (i := 2) rfl rfl (sg (aV cM rfl h11_0 (sg (aB (v := I 0) rfl (aE (wp_block ?_)))))))))))))
  have st19 := st18.row_nil (α := (List Entry)) 124
  refine bH (fun (m : Nat) (f : Nat → Value) (W : World) => ∃ (k : Nat) (v21 : Value) (fe22 : List Nat), k ≤ y.shelf.length ∧ m = y.shelf.length - k ∧ f 1 = .pointer (some ⟨b1, 0, none⟩) ∧ f 2 = .pointer (some ⟨b6, 0, none⟩) ∧ f 3 = .pointer (some ⟨b12, 0, none⟩) ∧ f 14 = v11_0 ∧ f 15 = I (y.shelf.length : Int) ∧ f 16 = I (k : Int) ∧ St w W ([Res.row (α := (List Entry)) 124 v21 (y.shelf.take k) fe22, Res.bx b12 [I y.now, I y.seq, v21, .slice none 0 0] 34, Res.bx b6 [I 0, I 0, .slice none 0 0, .slice none 0 0] 34, Res.bx b1 [I y.now, I y.seq, v11_0, v11_1] 34])) (y.shelf.length - 0) ?_ ?_
  · exact ⟨0, (.slice none 0 0), [], Nat.zero_le _, rfl, rfl, rfl, rfl, rfl, rfl, rfl, st19⟩
  intro m23 f24 W25 hJ26
  obtain ⟨k, v21, fe22, hcd28_0, rfl, hs28_1, hs28_2, hs28_3, hs28_14, hs28_15, hs28_16, st27⟩ := hJ26
  refine wp_seq (aA (sg (aY hs28_16 hs28_15 (aE (wp_seq (aR rfl (fun h29 => ?_) (fun h29 => ?_)))))))
  · have h29p := of_decide_eq_true h29
    refine wp_skip (wp_seq (wp_block (wp_seq (aA ?_))))
    have hi019db : k < y.shelf.length := (by omega)
    have hq_ := idx h11_0 (i := k) hi019db
    obtain ⟨b30, o30, cs30, f30, hp30, hr30, hc30, hm30⟩ := hq_
    have hk30 := hc30
    obtain ⟨v31, rfl, h32⟩ := hk30
    refine sg (aG cM hs28_14 hp30 hs28_16 rfl (sg (aK fD rfl rfl hr30 st27.below (i := 0) rfl rfl (sg (aD (v := v31) rfl (aE ?_))))))
    have hyk := sH y k (by omega)
    refine iH 5 [3, 4] [[], [3], [3, 4]] [[(0, 1)], [(1, 2)]] (w1 := W25) (rs := [Res.row (α := (List Entry)) 124 v21 (y.shelf.take k) fe22, Res.bx b12 [I y.now, I y.seq, v21, .slice none 0 0] 34, Res.bx b6 [I 0, I 0, .slice none 0 0, .slice none 0 0] 34, Res.bx b1 [I y.now, I y.seq, v11_0, v11_1] 34]) (fun q => match q with | 0 => Cp.of (ι := Unit) (fun _ => []) (fun _ => [Res.row (α := (List Entry)) 124 v21 (y.shelf.take k) fe22, Res.bx b12 [I y.now, I y.seq, v21, .slice none 0 0] 34, Res.bx b6 [I 0, I 0, .slice none 0 0, .slice none 0 0] 34, Res.bx b1 [I y.now, I y.seq, v11_0, v11_1] 34]) (fun _ _ h => h.dropn 0) | 1 => Cp.of (ι := Value) (fun v34 => [v34]) (fun v34 => [Res.row (α := Entry) 131 v34 (y.shelf[k]'hi019db) [], Res.row (α := (List Entry)) 124 v21 (y.shelf.take k) fe22, Res.bx b12 [I y.now, I y.seq, v21, .slice none 0 0] 34, Res.bx b6 [I 0, I 0, .slice none 0 0, .slice none 0 0] 34, Res.bx b1 [I y.now, I y.seq, v11_0, v11_1] 34]) (fun _ _ h => h.dropn 1) | _ => Cp.of (ι := Nat × Value) (fun ⟨b41, v34⟩ => [v34, .slice (some ⟨b41, 0, none⟩) 1 1]) (fun ⟨b41, v34⟩ => [Res.bx b41 [v34] 124, Res.row (α := Entry) 131 v34 (y.shelf[k]'hi019db) [], Res.row (α := (List Entry)) 124 v21 (y.shelf.take k) fe22, Res.bx b12 [I y.now, I y.seq, v21, .slice none 0 0] 34, Res.bx b6 [I 0, I 0, .slice none 0 0, .slice none 0 0] 34, Res.bx b1 [I y.now, I y.seq, v11_0, v11_1] 34]) (fun _ _ h => h.dropn 2)) [Pq.is (.pointer (some ⟨b12, 0 + 2, none⟩)), Pq.is (v21) (Sl.yl (dL (st27.get 0 rfl))), Pq.is (v31) (Sl.yl h32), Pq.none, Pq.none] mix (by rfl) (by rfl) (by rfl) ⟨(), rfl, st27, (Below.refl _ _)⟩ (by rfl) ⟨(fun f W hst hbl hd hf => aC dG ((hf 3 rfl).trans hs28_3) brq), (fun f W hst hbl hd hf => aF dE rfl (hd 0 20 rfl rfl) (hst.get 1 rfl) (i := 2) rfl rfl brq), (fun f W hst hbl hd hf => aB (v := v31) ((hf 5 rfl).trans (show _ = v31 from rfl)) brq), ⟨rfl, ?_, True.intro⟩, ⟨rfl, ?_, True.intro⟩, trivial⟩ ?_
    · intro f W hC hd hf
      have hC_ := hC
      obtain ⟨_, hu, hst, hbl⟩ := hC_
      have st33 : St w W ([Res.row (α := (List Entry)) 124 v21 (y.shelf.take k) fe22, Res.bx b12 [I y.now, I y.seq, v21, .slice none 0 0] 34, Res.bx b6 [I 0, I 0, .slice none 0 0, .slice none 0 0] 34, Res.bx b1 [I y.now, I y.seq, v11_0, v11_1] 34]) := hst
      refine (bI Tryz.func174 rfl (hd 2 22 rfl rfl) ((iT W (h32.below st33.below) (by omega)).mono ?_)); rintro _ W36 ⟨v34, rfl, hk37⟩; refine ⟨_, rfl, ?_⟩
      have st38 := St.call st33 hk37
      exact ⟨⟨v34, (ce rfl rfl), st38, (hbl.trans (Below.mono hk37.below hbl.size))⟩, Sl.yl (dL (st38.get 0 rfl))⟩
    · intro f W hC hd hf
      have hC_ := hC
      obtain ⟨v34, hu, hst, hbl⟩ := hC_
      have st40 : St w W ([Res.row (α := Entry) 131 v34 (y.shelf[k]'hi019db) [], Res.row (α := (List Entry)) 124 v21 (y.shelf.take k) fe22, Res.bx b12 [I y.now, I y.seq, v21, .slice none 0 0] 34, Res.bx b6 [I 0, I 0, .slice none 0 0, .slice none 0 0] 34, Res.bx b1 [I y.now, I y.seq, v11_0, v11_1] 34]) := hst
      have hu4_23 : f 23 = v34 := congrArg (fun l => l.getD 0 undef) hu
      refine (bR (cs := [v34]) (e := 124) (eG (v := v34) hu4_23 gK) (cG jY _ _ (Sl.cells (dL (st40.get 0 rfl))) rfl (by decide)) st40 ?_); intro b41 W42 hb43 st44
      exact ⟨⟨(b41, v34), (ce hu4_23 (ce rfl rfl)), st44, (hbl.trans (Below.mono hb43 hbl.size))⟩, rfl⟩
    intro f46 W47 hC hv48 hf49
    have hC_ := hC
    obtain ⟨⟨b41, v34⟩, hu, hst, hbl51⟩ := hC_
    have st50 : St w W47 ([Res.bx b41 [v34] 124, Res.row (α := Entry) 131 v34 (y.shelf[k]'hi019db) [], Res.row (α := (List Entry)) 124 v21 (y.shelf.take k) fe22, Res.bx b12 [I y.now, I y.seq, v21, .slice none 0 0] 34, Res.bx b6 [I 0, I 0, .slice none 0 0, .slice none 0 0] 34, Res.bx b1 [I y.now, I y.seq, v11_0, v11_1] 34]) := hst
    have hu52 : f46 23 = v34 := congrArg (fun l => l.getD 0 undef) hu
    have hu53 : f46 24 = .slice (some ⟨b41, 0, none⟩) 1 1 := congrArg (fun l => l.getD 1 undef) hu
    have st54 := st50.f1
    have hq_ := st54.shut
    obtain ⟨fp55, st56⟩ := hq_
    have st57 := st56.cs1
    have st58 := st57.f1
    have st59 := st58.f2
    refine sg (iP jY (hv48 1 21 (by decide) rfl) hu53 st59 (by rw [List.length_take]; unfold maxLen; omega) (by rw [List.length_take]; omega) ?_); intro v60 W61 st62
    refine sg (aC dG ((hf49 3 rfl).trans hs28_3) ?_)
    have st63 := st62.f1
    refine sg (bK (v := v60) (C' := [I y.now, I y.seq, v60, .slice none 0 0]) (by kernel_rfl) rfl rfl (Sl.cells (dL (st63.get 1 rfl))) (Sl.one (dL (st63.get 1 rfl))) st63 (Nat.le_of_ble_eq_true rfl) rfl ?_); intro W64 st65
    refine aE (aA (sg (aP ((hf49 16 rfl).trans hs28_16) rfl (by (simp only [I64] at *; omega)) (sg (aB (v := I ((k : Int) + 1)) rfl (aE ?_))))))
    have st66 := st65.f3
    have st67 := st66.f3
    have st68 := st67.f2
    have st69 := st68.f3
    exact ⟨_, y.shelf.length - (k + 1), (by omega), rfl, k + 1, v60, fe22 ++ fp55, (by omega), rfl, ((hf49 1 rfl).trans hs28_1), ((hf49 2 rfl).trans hs28_2), ((hf49 3 rfl).trans hs28_3), ((hf49 14 rfl).trans hs28_14), ((hf49 15 rfl).trans hs28_15), rfl, (by rw [← sZ _ _ (by omega)]; exact st69)⟩
  · have h29p := of_decide_eq_false h29
    refine wp_exit (wp_seq (wp_seq (aA (sg (aC bW hs28_1 (sg (aF cV rfl rfl (st27.get 3 rfl) (i := 3) rfl rfl (sg (aV bV rfl h11_1 (sg (aB (v := I 0) rfl (aE (wp_block ?_)))))))))))))
    have hke : k = y.shelf.length := by omega
    rw [hke, List.take_length] at st27
    have st70 := st27.row_nil (α := Run) 123
    refine bH (fun (m : Nat) (f : Nat → Value) (W : World) => ∃ (j : Nat) (v72 : Value) (fe73 : List Nat), j ≤ y.runs.length ∧ m = y.runs.length - j ∧ f 2 = .pointer (some ⟨b6, 0, none⟩) ∧ f 3 = .pointer (some ⟨b12, 0, none⟩) ∧ f 29 = v11_1 ∧ f 30 = I (y.runs.length : Int) ∧ f 31 = I (j : Int) ∧ St w W ([Res.row (α := Run) 123 v72 (y.runs.take j) fe73, Res.row (α := (List Entry)) 124 v21 y.shelf fe22, Res.bx b12 [I y.now, I y.seq, v21, v72] 34, Res.bx b6 [I 0, I 0, .slice none 0 0, .slice none 0 0] 34, Res.bx b1 [I y.now, I y.seq, v11_0, v11_1] 34])) (y.runs.length - 0) ?_ ?_
    · exact ⟨0, (.slice none 0 0), [], Nat.zero_le _, rfl, hs28_2, hs28_3, rfl, rfl, rfl, st70⟩
    intro m74 f75 W76 hJ77
    obtain ⟨j, v72, fe73, hcd79_0, rfl, hs79_2, hs79_3, hs79_29, hs79_30, hs79_31, st78⟩ := hJ77
    refine wp_seq (aA (sg (aY hs79_31 hs79_30 (aE (wp_seq (aR rfl (fun h80 => ?_) (fun h80 => ?_)))))))
    · have h80p := of_decide_eq_true h80
      refine wp_skip (wp_seq (wp_block (wp_seq (aA ?_))))
      have hif099f : j < y.runs.length := (by omega)
      have hq_ := idx h11_1 (i := j) hif099f
      obtain ⟨b81, o81, cs81, f81, hp81, hr81, hc81, hm81⟩ := hq_
      refine sg (aG bV hs79_29 hp81 hs79_31 rfl (sg (bY cY rfl rfl hr81 st78.below (Shape.len hc81) (sg (bN jI st78 ?_))))); intro b82 W83 hb84 st85
      refine sg (bU (cs := cs81) cY hc81 rfl rfl st85 rfl ?_); intro W87 st88
      refine aE ?_
      have hyk := jU (y := y) (k := j) (by omega)
      refine iH 5 [3, 4] [[], [3], [3, 4]] [[(0, 1)], [(1, 2)]] (w1 := W87) (rs := [Res.bx b82 cs81 123, Res.row (α := Run) 123 v72 (y.runs.take j) fe73, Res.row (α := (List Entry)) 124 v21 y.shelf fe22, Res.bx b12 [I y.now, I y.seq, v21, v72] 34, Res.bx b6 [I 0, I 0, .slice none 0 0, .slice none 0 0] 34, Res.bx b1 [I y.now, I y.seq, v11_0, v11_1] 34]) (fun q => match q with | 0 => Cp.of (ι := Unit) (fun _ => []) (fun _ => [Res.bx b82 cs81 123, Res.row (α := Run) 123 v72 (y.runs.take j) fe73, Res.row (α := (List Entry)) 124 v21 y.shelf fe22, Res.bx b12 [I y.now, I y.seq, v21, v72] 34, Res.bx b6 [I 0, I 0, .slice none 0 0, .slice none 0 0] 34, Res.bx b1 [I y.now, I y.seq, v11_0, v11_1] 34]) (fun _ _ h => h.dropn 0) | 1 => Cp.of (ι := List Value × List Nat) (fun ⟨cs90, fp90⟩ => [.agg cs90.toArray]) (fun ⟨cs90, fp90⟩ => [Res.own (α := Run) (.agg cs90.toArray) (y.runs[j]'hif099f) fp90, Res.bx b82 cs81 123, Res.row (α := Run) 123 v72 (y.runs.take j) fe73, Res.row (α := (List Entry)) 124 v21 y.shelf fe22, Res.bx b12 [I y.now, I y.seq, v21, v72] 34, Res.bx b6 [I 0, I 0, .slice none 0 0, .slice none 0 0] 34, Res.bx b1 [I y.now, I y.seq, v11_0, v11_1] 34]) (fun _ _ h => h.dropn 1) | _ => Cp.of (ι := Nat × List Value × List Nat) (fun ⟨b97, cs90, fp90⟩ => [.agg cs90.toArray, .slice (some ⟨b97, 0, none⟩) 1 1]) (fun ⟨b97, cs90, fp90⟩ => [Res.bx b97 cs90 123, Res.own (α := Run) (.agg cs90.toArray) (y.runs[j]'hif099f) fp90, Res.bx b82 cs81 123, Res.row (α := Run) 123 v72 (y.runs.take j) fe73, Res.row (α := (List Entry)) 124 v21 y.shelf fe22, Res.bx b12 [I y.now, I y.seq, v21, v72] 34, Res.bx b6 [I 0, I 0, .slice none 0 0, .slice none 0 0] 34, Res.bx b1 [I y.now, I y.seq, v11_0, v11_1] 34]) (fun _ _ h => h.dropn 2)) [Pq.is (.pointer (some ⟨b12, 0 + 3, none⟩)), Pq.is (v72) (Sl.yl (dL (st88.get 1 rfl))), Pq.is (.agg cs81.toArray), Pq.none, Pq.none] mix (by rfl) (by rfl) (by rfl) ⟨(), rfl, st88, (Below.refl _ _)⟩ (by rfl) ⟨(fun f W hst hbl hd hf => aC bW ((hf 3 rfl).trans hs79_3) brq), (fun f W hst hbl hd hf => aF cV rfl (hd 0 35 rfl rfl) (hst.get 3 rfl) (i := 3) rfl rfl brq), (fun f W hst hbl hd hf => bE cY rfl ((hf 7 rfl).trans (show _ = (.pointer (some ⟨b82, 0, none⟩) : Value) from rfl)) (hst.get 0 rfl) (Shape.len hc81) brq), ⟨rfl, ?_, True.intro⟩, ⟨rfl, ?_, True.intro⟩, trivial⟩ ?_
      · intro f W hC hd hf
        have hC_ := hC
        obtain ⟨_, hu, hst, hbl⟩ := hC_
        have st89 : St w W ([Res.bx b82 cs81 123, Res.row (α := Run) 123 v72 (y.runs.take j) fe73, Res.row (α := (List Entry)) 124 v21 y.shelf fe22, Res.bx b12 [I y.now, I y.seq, v21, v72] 34, Res.bx b6 [I 0, I 0, .slice none 0 0, .slice none 0 0] 34, Res.bx b1 [I y.now, I y.seq, v11_0, v11_1] 34]) := hst
        refine (bI Tryz.func175 rfl (hd 2 37 rfl rfl) ((CopyRunI W (cA hc81 st89.below) (by omega)).mono ?_)); rintro _ W92 ⟨cs90, fp90, rfl, hk93⟩; refine ⟨_, rfl, ?_⟩
        have st94 := St.call st89 hk93
        exact ⟨⟨(cs90, fp90), (ce rfl rfl), st94, (hbl.trans (Below.mono hk93.below hbl.size))⟩, rfl⟩
      · intro f W hC hd hf
        have hC_ := hC
        obtain ⟨⟨cs90, fp90⟩, hu, hst, hbl⟩ := hC_
        have st96 : St w W ([Res.own (α := Run) (.agg cs90.toArray) (y.runs[j]'hif099f) fp90, Res.bx b82 cs81 123, Res.row (α := Run) 123 v72 (y.runs.take j) fe73, Res.row (α := (List Entry)) 124 v21 y.shelf fe22, Res.bx b12 [I y.now, I y.seq, v21, v72] 34, Res.bx b6 [I 0, I 0, .slice none 0 0, .slice none 0 0] 34, Res.bx b1 [I y.now, I y.seq, v11_0, v11_1] 34]) := hst
        have hu4_38 : f 38 = .agg cs90.toArray := congrArg (fun l => l.getD 0 undef) hu
        refine (bR (cs := cs90) (e := 123) (eG (v := .agg cs90.toArray) hu4_38 gK) (cG oY _ _ rfl (Shape.len (dR (st96.get 0 rfl) rfl)) (by decide)) st96 ?_); intro b97 W98 hb99 st100
        exact ⟨⟨(b97, cs90, fp90), (ce hu4_38 (ce rfl rfl)), st100, (hbl.trans (Below.mono hb99 hbl.size))⟩, rfl⟩
      intro f102 W103 hC hv104 hf105
      have hC_ := hC
      obtain ⟨⟨b97, cs90, fp90⟩, hu, hst, hbl107⟩ := hC_
      have st106 : St w W103 ([Res.bx b97 cs90 123, Res.own (α := Run) (.agg cs90.toArray) (y.runs[j]'hif099f) fp90, Res.bx b82 cs81 123, Res.row (α := Run) 123 v72 (y.runs.take j) fe73, Res.row (α := (List Entry)) 124 v21 y.shelf fe22, Res.bx b12 [I y.now, I y.seq, v21, v72] 34, Res.bx b6 [I 0, I 0, .slice none 0 0, .slice none 0 0] 34, Res.bx b1 [I y.now, I y.seq, v11_0, v11_1] 34]) := hst
      have hu108 : f102 38 = .agg cs90.toArray := congrArg (fun l => l.getD 0 undef) hu
      have hu109 : f102 39 = .slice (some ⟨b97, 0, none⟩) 1 1 := congrArg (fun l => l.getD 1 undef) hu
      have st110 := st106.f1
      have st111 := st110.cs rfl
      have st112 := st111.f1
      have st113 := st112.f3
      refine sg (iP oY (hv104 1 36 (by decide) rfl) hu109 st113 (by rw [List.length_take]; unfold maxLen; omega) (by rw [List.length_take]; omega) ?_); intro v114 W115 st116
      refine sg (aC bW ((hf105 3 rfl).trans hs79_3) ?_)
      have st117 := st116.f3
      refine sg (bK (v := v114) (C' := [I y.now, I y.seq, v21, v114]) (by kernel_rfl) rfl rfl (Sl.cells (dL (st117.get 1 rfl))) (Sl.one (dL (st117.get 1 rfl))) st117 (Nat.le_of_ble_eq_true rfl) rfl ?_); intro W118 st119
      refine aE (aA (sg (aP ((hf105 31 rfl).trans hs79_31) rfl (by (simp only [I64] at *; omega)) (sg (aB (v := I ((j : Int) + 1)) rfl (aE ?_))))))
      have st120 := st119.f5
      have st121 := st120.f5
      have st122 := st121.f2
      have st123 := st122.f5
      have st124 := st123.f4
      have st125 := st124.d5
      exact ⟨_, y.runs.length - (j + 1), (by omega), rfl, j + 1, v114, fe73 ++ fp90, (by omega), rfl, ((hf105 2 rfl).trans hs79_2), ((hf105 3 rfl).trans hs79_3), ((hf105 29 rfl).trans hs79_29), ((hf105 30 rfl).trans hs79_30), rfl, (by rw [← uG _ _ (by omega)]; exact st125)⟩
    · have h80p := of_decide_eq_false h80
      refine wp_exit (wp_seq (aA (sg (aU (cs := [I y.now, I y.seq, v21, v72]) cC rfl hs79_3 (st78.get 2 rfl) rfl rfl ?_))))
      have st126 := st78.f3
      refine sg (bT (cs := [I y.now, I y.seq, v21, v72]) (C' := [I y.now, I y.seq, v21, v72]) (by kernel_rfl) hs79_2 rfl (aM rfl (aM rfl (aM (Sl.one (dL (st126.get 2 rfl))) (aM (Sl.one (dL (st126.get 1 rfl))) dW)))) st126 (Nat.le_of_ble_eq_true rfl) rfl ?_); intro W127 st128
      refine aE (wp_ret ?_); repeat first|refine aH ?_|refine aI ?_
      refine iE cC rfl Tryz.results108 hs79_2 (st128.get 0 rfl) rfl ?_
      have hje : j = y.runs.length := by omega
      rw [hje, List.take_length] at st128
      have st129 := st128.f2
      have hq_ := st129.shut
      obtain ⟨fp131, st130⟩ := hq_
      have st132 := st130.f2
      have hq_ := st132.shut
      obtain ⟨fp134, st133⟩ := hq_
      have st135 := st133.f1
      have st136 := iU (x := y) st135 (by assumption)
      exact ⟨_, _, rfl, st136.only 0 rfl⟩
set_option maxHeartbeats 2000000 in
theorem CopyYardS (w : World) {y : Yard} {cs : List Value} {fp : List Nat} (hc : Shape.C w cs y fp) (hw : y.wt ≤ 1048576) :
    Calls Tryz.prog 71 #[.agg cs.toArray] w fun e w' => ∃ (cs' : List Value) (fp' : List Nat), e = .returned (.agg cs'.toArray) ∧ St w w' [Res.own (.agg cs'.toArray) y fp'] := by
  have hys : y.shelf.length + y.runs.length ≤ y.wt := by unfold Yard.wt wtL; omega
  refine dU Tryz.func71 rfl Tryz.ntmps71 (by decide) (wp_seq (aA (sg (aQ (cs := cs) rfl (St.start w) ?_)))); intro b1 W2 hb3 st4
  refine sg (bN hZ st4 ?_); intro b6 W7 hb8 st9
  refine aE (wp_seq (aA (sg (aC fE rfl ?_))))
  have hk11 := hc
  obtain ⟨v11_0, v11_1, g11_0, g11_1, rfl, hok11, h11_0, h11_1, rfl⟩ := hk11
  refine sg (aF aJ rfl rfl (st9.get 1 rfl) (i := 0) rfl rfl (sg (aC eN rfl (sg (aF aJ rfl rfl (st9.get 1 rfl) (i := 1) rfl rfl (sg (gJ (vs := [(0, I y.now), (1, I y.seq)]) (cs := [I y.now, I y.seq, .slice none 0 0, .slice none 0 0]) (eG (v := I y.now) rfl (eG (v := I y.seq) rfl gK)) (by kernel_rfl) (sg (bN hZ st9 ?_))))))))); intro b12 W13 hb14 st15
  refine sg (bT (cs := [I y.now, I y.seq, .slice none 0 0, .slice none 0 0]) (C' := [I y.now, I y.seq, .slice none 0 0, .slice none 0 0]) (by kernel_rfl) rfl rfl (aM rfl (aM rfl (aM rfl (aM rfl dW)))) st15 (Nat.le_of_ble_eq_true rfl) rfl ?_); intro W17 st18
  refine aE (wp_seq (wp_seq (aA (sg (aD (v := I 0) rfl (aE (wp_block ?_)))))))
  have st19 := st18.row_nil (α := (List Entry)) 124
  refine bH (fun (m : Nat) (f : Nat → Value) (W : World) => ∃ (k : Nat) (v21 : Value) (fe22 : List Nat), k ≤ y.shelf.length ∧ m = y.shelf.length - k ∧ f 1 = .pointer (some ⟨b1, 0, none⟩) ∧ f 2 = .pointer (some ⟨b6, 0, none⟩) ∧ f 3 = .pointer (some ⟨b12, 0, none⟩) ∧ f 4 = I (k : Int) ∧ St w W ([Res.row (α := (List Entry)) 124 v21 (y.shelf.take k) fe22, Res.bx b12 [I y.now, I y.seq, v21, .slice none 0 0] 34, Res.bx b6 [I 0, I 0, .slice none 0 0, .slice none 0 0] 34, Res.bx b1 [I y.now, I y.seq, v11_0, v11_1] 34])) (y.shelf.length - 0) ?_ ?_
  · exact ⟨0, (.slice none 0 0), [], Nat.zero_le _, rfl, rfl, rfl, rfl, rfl, st19⟩
  intro m23 f24 W25 hJ26
  obtain ⟨k, v21, fe22, hcd28_0, rfl, hs28_1, hs28_2, hs28_3, hs28_4, st27⟩ := hJ26
  refine wp_seq (wp_seq (aA (sg (aB (v := I (k : Int)) hs28_4 (sg (aC dG hs28_1 (sg (aF dE rfl rfl (st27.get 3 rfl) (i := 2) rfl rfl (sg (aV cM rfl h11_0 (sg (aY rfl rfl (aE (aR rfl (fun h29 => ?_) (fun h29 => ?_)))))))))))))))
  · have h29p := of_decide_eq_true h29
    refine wp_skip (wp_seq (wp_block ?_))
    have hi019db : k < y.shelf.length := (by omega)
    have hq_ := idx h11_0 (i := k) hi019db
    obtain ⟨b49, o49, cs49, f49, hp49, hr49, hc49, hm49⟩ := hq_
    have hk49 := hc49
    obtain ⟨v50, rfl, h51⟩ := hk49
    have hyk := sH y k (by omega)
    refine iH 10 [2, 8, 9] [[], [2], [2, 8], [2, 8, 9]] [[(0, 1)], [(1, 2)], [(2, 3)]] (w1 := w) (rs := [Res.row (α := (List Entry)) 124 v21 (y.shelf.take k) fe22, Res.bx b12 [I y.now, I y.seq, v21, .slice none 0 0] 34, Res.bx b6 [I 0, I 0, .slice none 0 0, .slice none 0 0] 34, Res.bx b1 [I y.now, I y.seq, v11_0, v11_1] 34]) (fun q => match q with | 0 => Cp.of (ι := Unit) (fun _ => []) (fun _ => [Res.row (α := (List Entry)) 124 v21 (y.shelf.take k) fe22, Res.bx b12 [I y.now, I y.seq, v21, .slice none 0 0] 34, Res.bx b6 [I 0, I 0, .slice none 0 0, .slice none 0 0] 34, Res.bx b1 [I y.now, I y.seq, v11_0, v11_1] 34]) (fun _ _ h => h.dropn 0) | 1 => Cp.of (ι := Nat) (fun b44 => [(.slice (some ⟨b44, 0, none⟩) 0 0)]) (fun b44 => [Res.row (α := Entry) 131 (.slice (some ⟨b44, 0, none⟩) 0 0) [] [], Res.row (α := (List Entry)) 124 v21 (y.shelf.take k) fe22, Res.bx b12 [I y.now, I y.seq, v21, .slice none 0 0] 34, Res.bx b6 [I 0, I 0, .slice none 0 0, .slice none 0 0] 34, Res.bx b1 [I y.now, I y.seq, v11_0, v11_1] 34]) (fun _ _ h => h.dropn 1) | 2 => Cp.of (ι := Value × Nat) (fun ⟨v53, b44⟩ => [(.slice (some ⟨b44, 0, none⟩) 0 0), v53]) (fun ⟨v53, b44⟩ => [Res.row (α := Entry) 131 v53 ([] ++ (y.shelf[k]'hi019db)) [], Res.row (α := (List Entry)) 124 v21 (y.shelf.take k) fe22, Res.bx b12 [I y.now, I y.seq, v21, .slice none 0 0] 34, Res.bx b6 [I 0, I 0, .slice none 0 0, .slice none 0 0] 34, Res.bx b1 [I y.now, I y.seq, v11_0, v11_1] 34]) (fun _ _ h => h.dropn 1) | _ => Cp.of (ι := Nat × Value × Nat) (fun ⟨b57, v53, b44⟩ => [(.slice (some ⟨b44, 0, none⟩) 0 0), v53, .slice (some ⟨b57, 0, none⟩) 1 1]) (fun ⟨b57, v53, b44⟩ => [Res.bx b57 [v53] 124, Res.row (α := Entry) 131 v53 ([] ++ (y.shelf[k]'hi019db)) [], Res.row (α := (List Entry)) 124 v21 (y.shelf.take k) fe22, Res.bx b12 [I y.now, I y.seq, v21, .slice none 0 0] 34, Res.bx b6 [I 0, I 0, .slice none 0 0, .slice none 0 0] 34, Res.bx b1 [I y.now, I y.seq, v11_0, v11_1] 34]) (fun _ _ h => h.dropn 2)) [Pq.is (.pointer (some ⟨b12, 0 + 2, none⟩)), Pq.is (v21) (Sl.yl (dL (st27.get 0 rfl))), Pq.none, Pq.is (.pointer (some ⟨b1, 0 + 2, none⟩)), Pq.is (v11_0) (Sl.yl h11_0), Pq.is (I (k : Int)), Pq.is (.pointer (some ⟨b49, o49, none⟩)), Pq.is (v50) (Sl.yl h51), Pq.none, Pq.none] mix (by rfl) (by rfl) (by rfl) ⟨(), rfl, st27, st27.below⟩ (by rfl) ⟨(fun f W hst hbl hd hf => aC dG ((hf 3 rfl).trans hs28_3) brq), (fun f W hst hbl hd hf => aF dE rfl (hd 0 18 rfl rfl) (hst.get 1 rfl) (i := 2) rfl rfl brq), ⟨rfl, ?_, True.intro⟩, (fun f W hst hbl hd hf => aC dG ((hf 1 rfl).trans hs28_1) brq), (fun f W hst hbl hd hf => aF dE rfl (hd 3 21 rfl rfl) (hst.get 3 rfl) (i := 2) rfl rfl brq), (fun f W hst hbl hd hf => aB (v := I (k : Int)) ((hf 4 rfl).trans hs28_4) brq), (fun f W hst hbl hd hf => aG cM (hd 4 22 rfl rfl) hp49 (hd 5 23 rfl rfl) rfl brq), (fun f W hst hbl hd hf => aK fD rfl (hd 6 24 rfl rfl) hr49 hst.below (i := 0) rfl rfl brq), ⟨rfl, ?_, True.intro⟩, ⟨rfl, ?_, True.intro⟩, trivial⟩ ?_
    · intro f W hC hd hf
      have hC_ := hC
      obtain ⟨_, hu, hst, hbl⟩ := hC_
      have st43 : St w W ([Res.row (α := (List Entry)) 124 v21 (y.shelf.take k) fe22, Res.bx b12 [I y.now, I y.seq, v21, .slice none 0 0] 34, Res.bx b6 [I 0, I 0, .slice none 0 0, .slice none 0 0] 34, Res.bx b1 [I y.now, I y.seq, v11_0, v11_1] 34]) := hst
      refine (bR (cs := []) (e := 131) gK (eQ dX _) st43 ?_); intro b44 W45 hb46 st47
      have st47 := st47.row_empty (α := Entry)
      exact ⟨⟨b44, (ce rfl rfl), st47, st47.below⟩, Sl.yl (dL (st47.get 0 rfl))⟩
    · intro f W hC hd hf
      have hC_ := hC
      obtain ⟨b44, hu, hst, hbl⟩ := hC_
      have st52 : St w W ([Res.row (α := Entry) 131 (.slice (some ⟨b44, 0, none⟩) 0 0) [] [], Res.row (α := (List Entry)) 124 v21 (y.shelf.take k) fe22, Res.bx b12 [I y.now, I y.seq, v21, .slice none 0 0] 34, Res.bx b6 [I 0, I 0, .slice none 0 0, .slice none 0 0] 34, Res.bx b1 [I y.now, I y.seq, v11_0, v11_1] 34]) := hst
      have hu8_20 : f 20 = (.slice (some ⟨b44, 0, none⟩) 0 0) := congrArg (fun l => l.getD 0 undef) hu
      refine (eJ gQ dX hu8_20 (hd 7 25 rfl rfl) h51 st52.below st52 (by simp only [List.length_nil]; unfold maxLen; omega) (by simp only [List.length_nil]; omega) ?_); intro v53 W54 st55
      exact ⟨⟨(v53, b44), (ce hu8_20 (ce rfl rfl)), st55, st55.below⟩, Sl.yl (dL (st55.get 0 rfl))⟩
    · intro f W hC hd hf
      have hC_ := hC
      obtain ⟨⟨v53, b44⟩, hu, hst, hbl⟩ := hC_
      have st56 : St w W ([Res.row (α := Entry) 131 v53 ([] ++ (y.shelf[k]'hi019db)) [], Res.row (α := (List Entry)) 124 v21 (y.shelf.take k) fe22, Res.bx b12 [I y.now, I y.seq, v21, .slice none 0 0] 34, Res.bx b6 [I 0, I 0, .slice none 0 0, .slice none 0 0] 34, Res.bx b1 [I y.now, I y.seq, v11_0, v11_1] 34]) := hst
      have hu9_20 : f 20 = (.slice (some ⟨b44, 0, none⟩) 0 0) := congrArg (fun l => l.getD 0 undef) hu
      have hu9_26 : f 26 = v53 := congrArg (fun l => l.getD 1 undef) hu
      refine (bR (cs := [v53]) (e := 124) (eG (v := v53) hu9_26 gK) (cG jY _ _ (Sl.cells (dL (st56.get 0 rfl))) rfl (by decide)) st56 ?_); intro b57 W58 hb59 st60
      exact ⟨⟨(b57, v53, b44), (ce hu9_20 (ce hu9_26 (ce rfl rfl))), st60, st60.below⟩, rfl⟩
    intro f62 W63 hC hv64 hf65
    have hC_ := hC
    obtain ⟨⟨b57, v53, b44⟩, hu, hst, hbl67⟩ := hC_
    have st66 : St w W63 ([Res.bx b57 [v53] 124, Res.row (α := Entry) 131 v53 ([] ++ (y.shelf[k]'hi019db)) [], Res.row (α := (List Entry)) 124 v21 (y.shelf.take k) fe22, Res.bx b12 [I y.now, I y.seq, v21, .slice none 0 0] 34, Res.bx b6 [I 0, I 0, .slice none 0 0, .slice none 0 0] 34, Res.bx b1 [I y.now, I y.seq, v11_0, v11_1] 34]) := hst
    have hu68 : f62 20 = (.slice (some ⟨b44, 0, none⟩) 0 0) := congrArg (fun l => l.getD 0 undef) hu
    have hu69 : f62 26 = v53 := congrArg (fun l => l.getD 1 undef) hu
    have hu70 : f62 27 = .slice (some ⟨b57, 0, none⟩) 1 1 := congrArg (fun l => l.getD 2 undef) hu
    have st71 := st66.f1
    have hq_ := st71.shut
    obtain ⟨fp72, st73⟩ := hq_
    have st74 := st73.cs1
    have st75 := st74.f1
    have st76 := st75.f2
    refine sg (iP jY (hv64 1 19 (by decide) rfl) hu70 st76 (by rw [List.length_take]; unfold maxLen; omega) (by rw [List.length_take]; omega) ?_); intro v77 W78 st79
    refine sg (aC dG ((hf65 3 rfl).trans hs28_3) ?_)
    have st80 := st79.f1
    refine sg (bK (v := v77) (C' := [I y.now, I y.seq, v77, .slice none 0 0]) (by kernel_rfl) rfl rfl (Sl.cells (dL (st80.get 1 rfl))) (Sl.one (dL (st80.get 1 rfl))) st80 (Nat.le_of_ble_eq_true rfl) rfl ?_); intro W81 st82
    refine aE (aA (sg (aB (v := I (k : Int)) ((hf65 4 rfl).trans hs28_4) (sg (aP rfl rfl (by (simp only [I64] at *; omega)) (sg (aD (v := I ((k : Int) + 1)) rfl (aE ?_))))))))
    have st83 := st82.f3
    have st84 := st83.f3
    have st85 := st84.f2
    have st86 := st85.f3
    exact ⟨_, y.shelf.length - (k + 1), (by omega), rfl, k + 1, v77, fe22 ++ fp72, (by omega), rfl, ((hf65 1 rfl).trans hs28_1), ((hf65 2 rfl).trans hs28_2), ((hf65 3 rfl).trans hs28_3), rfl, (by rw [← sZ _ _ (by omega)]; exact st86)⟩
  · have h29p := of_decide_eq_false h29
    refine wp_exit (wp_seq (wp_seq (aA (sg (aD (v := I 0) rfl (aE (wp_block ?_)))))))
    have hke : k = y.shelf.length := by omega
    rw [hke, List.take_length] at st27
    have st87 := st27.row_nil (α := Run) 123
    refine bH (fun (m : Nat) (f : Nat → Value) (W : World) => ∃ (j : Nat) (v89 : Value) (fe90 : List Nat), j ≤ y.runs.length ∧ m = y.runs.length - j ∧ f 1 = .pointer (some ⟨b1, 0, none⟩) ∧ f 2 = .pointer (some ⟨b6, 0, none⟩) ∧ f 3 = .pointer (some ⟨b12, 0, none⟩) ∧ f 5 = I (j : Int) ∧ St w W ([Res.row (α := Run) 123 v89 (y.runs.take j) fe90, Res.row (α := (List Entry)) 124 v21 y.shelf fe22, Res.bx b12 [I y.now, I y.seq, v21, v89] 34, Res.bx b6 [I 0, I 0, .slice none 0 0, .slice none 0 0] 34, Res.bx b1 [I y.now, I y.seq, v11_0, v11_1] 34])) (y.runs.length - 0) ?_ ?_
    · exact ⟨0, (.slice none 0 0), [], Nat.zero_le _, rfl, hs28_1, hs28_2, hs28_3, rfl, st87⟩
    intro m91 f92 W93 hJ94
    obtain ⟨j, v89, fe90, hcd96_0, rfl, hs96_1, hs96_2, hs96_3, hs96_5, st95⟩ := hJ94
    refine wp_seq (wp_seq (aA (sg (aB (v := I (j : Int)) hs96_5 (sg (aC bW hs96_1 (sg (aF cV rfl rfl (st95.get 4 rfl) (i := 3) rfl rfl (sg (aV bV rfl h11_1 (sg (aY rfl rfl (aE (aR rfl (fun h97 => ?_) (fun h97 => ?_)))))))))))))))
    · have h97p := of_decide_eq_true h97
      refine wp_skip (wp_seq (wp_block ?_))
      have hif099f : j < y.runs.length := (by omega)
      have hq_ := idx h11_1 (i := j) hif099f
      obtain ⟨b98, o98, cs98, f98, hp98, hr98, hc98, hm98⟩ := hq_
      have hyk := jU (y := y) (k := j) (by omega)
      refine iH 9 [7, 8] [[], [7], [7, 8]] [[(0, 1)], [(1, 2)]] (w1 := W93) (rs := [Res.row (α := Run) 123 v89 (y.runs.take j) fe90, Res.row (α := (List Entry)) 124 v21 y.shelf fe22, Res.bx b12 [I y.now, I y.seq, v21, v89] 34, Res.bx b6 [I 0, I 0, .slice none 0 0, .slice none 0 0] 34, Res.bx b1 [I y.now, I y.seq, v11_0, v11_1] 34]) (fun q => match q with | 0 => Cp.of (ι := Unit) (fun _ => []) (fun _ => [Res.row (α := Run) 123 v89 (y.runs.take j) fe90, Res.row (α := (List Entry)) 124 v21 y.shelf fe22, Res.bx b12 [I y.now, I y.seq, v21, v89] 34, Res.bx b6 [I 0, I 0, .slice none 0 0, .slice none 0 0] 34, Res.bx b1 [I y.now, I y.seq, v11_0, v11_1] 34]) (fun _ _ h => h.dropn 0) | 1 => Cp.of (ι := List Value × List Nat) (fun ⟨cs100, fp100⟩ => [.agg cs100.toArray]) (fun ⟨cs100, fp100⟩ => [Res.own (α := Run) (.agg cs100.toArray) (y.runs[j]'hif099f) fp100, Res.row (α := Run) 123 v89 (y.runs.take j) fe90, Res.row (α := (List Entry)) 124 v21 y.shelf fe22, Res.bx b12 [I y.now, I y.seq, v21, v89] 34, Res.bx b6 [I 0, I 0, .slice none 0 0, .slice none 0 0] 34, Res.bx b1 [I y.now, I y.seq, v11_0, v11_1] 34]) (fun _ _ h => h.dropn 1) | _ => Cp.of (ι := Nat × List Value × List Nat) (fun ⟨b107, cs100, fp100⟩ => [.agg cs100.toArray, .slice (some ⟨b107, 0, none⟩) 1 1]) (fun ⟨b107, cs100, fp100⟩ => [Res.bx b107 cs100 123, Res.own (α := Run) (.agg cs100.toArray) (y.runs[j]'hif099f) fp100, Res.row (α := Run) 123 v89 (y.runs.take j) fe90, Res.row (α := (List Entry)) 124 v21 y.shelf fe22, Res.bx b12 [I y.now, I y.seq, v21, v89] 34, Res.bx b6 [I 0, I 0, .slice none 0 0, .slice none 0 0] 34, Res.bx b1 [I y.now, I y.seq, v11_0, v11_1] 34]) (fun _ _ h => h.dropn 2)) [Pq.is (.pointer (some ⟨b12, 0 + 3, none⟩)), Pq.is (v89) (Sl.yl (dL (st95.get 0 rfl))), Pq.is (.pointer (some ⟨b1, 0 + 3, none⟩)), Pq.is (v11_1) (Sl.yl h11_1), Pq.is (I (j : Int)), Pq.is (.pointer (some ⟨b98, o98, none⟩)), Pq.is (.agg cs98.toArray), Pq.none, Pq.none] mix (by rfl) (by rfl) (by rfl) ⟨(), rfl, st95, (Below.refl _ _)⟩ (by rfl) ⟨(fun f W hst hbl hd hf => aC bW ((hf 3 rfl).trans hs96_3) brq), (fun f W hst hbl hd hf => aF cV rfl (hd 0 37 rfl rfl) (hst.get 2 rfl) (i := 3) rfl rfl brq), (fun f W hst hbl hd hf => aC bW ((hf 1 rfl).trans hs96_1) brq), (fun f W hst hbl hd hf => aF cV rfl (hd 2 39 rfl rfl) (hst.get 4 rfl) (i := 3) rfl rfl brq), (fun f W hst hbl hd hf => aB (v := I (j : Int)) ((hf 5 rfl).trans hs96_5) brq), (fun f W hst hbl hd hf => aG bV (hd 3 40 rfl rfl) hp98 (hd 4 41 rfl rfl) rfl brq), (fun f W hst hbl hd hf => bY cY rfl (hd 5 42 rfl rfl) hr98 hst.below (Shape.len hc98) brq), ⟨rfl, ?_, True.intro⟩, ⟨rfl, ?_, True.intro⟩, trivial⟩ ?_
      · intro f W hC hd hf
        have hC_ := hC
        obtain ⟨_, hu, hst, hbl⟩ := hC_
        have st99 : St w W ([Res.row (α := Run) 123 v89 (y.runs.take j) fe90, Res.row (α := (List Entry)) 124 v21 y.shelf fe22, Res.bx b12 [I y.now, I y.seq, v21, v89] 34, Res.bx b6 [I 0, I 0, .slice none 0 0, .slice none 0 0] 34, Res.bx b1 [I y.now, I y.seq, v11_0, v11_1] 34]) := hst
        refine (bI Tryz.func136 rfl (hd 6 43 rfl rfl) ((vD W (cA hc98 st99.below) (by omega)).mono ?_)); rintro _ W102 ⟨cs100, fp100, rfl, hk103⟩; refine ⟨_, rfl, ?_⟩
        have st104 := St.call st99 hk103
        exact ⟨⟨(cs100, fp100), (ce rfl rfl), st104, (hbl.trans (Below.mono hk103.below hbl.size))⟩, rfl⟩
      · intro f W hC hd hf
        have hC_ := hC
        obtain ⟨⟨cs100, fp100⟩, hu, hst, hbl⟩ := hC_
        have st106 : St w W ([Res.own (α := Run) (.agg cs100.toArray) (y.runs[j]'hif099f) fp100, Res.row (α := Run) 123 v89 (y.runs.take j) fe90, Res.row (α := (List Entry)) 124 v21 y.shelf fe22, Res.bx b12 [I y.now, I y.seq, v21, v89] 34, Res.bx b6 [I 0, I 0, .slice none 0 0, .slice none 0 0] 34, Res.bx b1 [I y.now, I y.seq, v11_0, v11_1] 34]) := hst
        have hu8_44 : f 44 = .agg cs100.toArray := congrArg (fun l => l.getD 0 undef) hu
        refine (bR (cs := cs100) (e := 123) (eG (v := .agg cs100.toArray) hu8_44 gK) (cG oY _ _ rfl (Shape.len (dR (st106.get 0 rfl) rfl)) (by decide)) st106 ?_); intro b107 W108 hb109 st110
        exact ⟨⟨(b107, cs100, fp100), (ce hu8_44 (ce rfl rfl)), st110, (hbl.trans (Below.mono hb109 hbl.size))⟩, rfl⟩
      intro f112 W113 hC hv114 hf115
      have hC_ := hC
      obtain ⟨⟨b107, cs100, fp100⟩, hu, hst, hbl117⟩ := hC_
      have st116 : St w W113 ([Res.bx b107 cs100 123, Res.own (α := Run) (.agg cs100.toArray) (y.runs[j]'hif099f) fp100, Res.row (α := Run) 123 v89 (y.runs.take j) fe90, Res.row (α := (List Entry)) 124 v21 y.shelf fe22, Res.bx b12 [I y.now, I y.seq, v21, v89] 34, Res.bx b6 [I 0, I 0, .slice none 0 0, .slice none 0 0] 34, Res.bx b1 [I y.now, I y.seq, v11_0, v11_1] 34]) := hst
      have hu118 : f112 44 = .agg cs100.toArray := congrArg (fun l => l.getD 0 undef) hu
      have hu119 : f112 45 = .slice (some ⟨b107, 0, none⟩) 1 1 := congrArg (fun l => l.getD 1 undef) hu
      have st120 := st116.f1
      have st121 := st120.cs rfl
      have st122 := st121.f1
      have st123 := st122.f2
      refine sg (iP oY (hv114 1 38 (by decide) rfl) hu119 st123 (by rw [List.length_take]; unfold maxLen; omega) (by rw [List.length_take]; omega) ?_); intro v124 W125 st126
      refine sg (aC bW ((hf115 3 rfl).trans hs96_3) ?_)
      have st127 := st126.f2
      refine sg (bK (v := v124) (C' := [I y.now, I y.seq, v21, v124]) (by kernel_rfl) rfl rfl (Sl.cells (dL (st127.get 1 rfl))) (Sl.one (dL (st127.get 1 rfl))) st127 (Nat.le_of_ble_eq_true rfl) rfl ?_); intro W128 st129
      refine aE (aA (sg (aB (v := I (j : Int)) ((hf115 5 rfl).trans hs96_5) (sg (aP rfl rfl (by (simp only [I64] at *; omega)) (sg (aD (v := I ((j : Int) + 1)) rfl (aE ?_))))))))
      have st130 := st129.f4
      have st131 := st130.f4
      have st132 := st131.f2
      have st133 := st132.f4
      have st134 := st133.f4
      exact ⟨_, y.runs.length - (j + 1), (by omega), rfl, j + 1, v124, fe90 ++ fp100, (by omega), rfl, ((hf115 1 rfl).trans hs96_1), ((hf115 2 rfl).trans hs96_2), ((hf115 3 rfl).trans hs96_3), rfl, (by rw [← uG _ _ (by omega)]; exact st134)⟩
    · have h97p := of_decide_eq_false h97
      refine wp_exit (wp_seq (aA (sg (aU (cs := [I y.now, I y.seq, v21, v89]) cC rfl hs96_3 (st95.get 2 rfl) rfl rfl ?_))))
      have st135 := st95.f3
      refine sg (bT (cs := [I y.now, I y.seq, v21, v89]) (C' := [I y.now, I y.seq, v21, v89]) (by kernel_rfl) hs96_2 rfl (aM rfl (aM rfl (aM (Sl.one (dL (st135.get 2 rfl))) (aM (Sl.one (dL (st135.get 1 rfl))) dW)))) st135 (Nat.le_of_ble_eq_true rfl) rfl ?_); intro W136 st137
      refine aE (wp_ret ?_); repeat first|refine aH ?_|refine aI ?_
      refine iE cC rfl Tryz.results71 hs96_2 (st137.get 0 rfl) rfl ?_
      have hje : j = y.runs.length := by omega
      rw [hje, List.take_length] at st137
      have st138 := st137.f2
      have hq_ := st138.shut
      obtain ⟨fp140, st139⟩ := hq_
      have st141 := st139.f2
      have hq_ := st141.shut
      obtain ⟨fp143, st142⟩ := hq_
      have st144 := st142.f1
      have st145 := iU (x := y) st144 (by assumption)
      exact ⟨_, _, rfl, st145.only 0 rfl⟩
end Go.Proofs.YtchnllpegfbleaaGreat
namespace Go.Proofs.YtchnllpegfbleaaGreat
set_option linter.unusedSimpArgs false
set_option linter.unusedVariables false
set_option maxRecDepth 100000
open Go.RowKit


def jN (xs : List Entry) (e : Entry) : Nat := (hG (fun x => !eF x e) xs).getD xs.length
def lU (xs : List Entry) (e : Entry) : List Entry := xs.take (jN xs e) ++ e :: xs.drop (jN xs e)
theorem qV (xs : List Entry) (e : Entry) : jN xs e ≤ xs.length := by
  unfold jN
  cases h : hG (fun x => !eF x e) xs with
  | none => exact Nat.le_refl _
  | some k => exact Nat.le_of_lt (qI h).1
theorem putE_len (xs : List Entry) (e : Entry) : (lU xs e).length = xs.length + 1 := by
  have := qV xs e
  unfold lU
  rw [List.length_append, List.length_cons, List.length_take, List.length_drop]; omega
theorem putIx_none {xs : List Entry} {e : Entry} (h : ixI (hG (fun x => !eF x e) xs) < 0) : jN xs e = xs.length := by
  unfold jN
  cases hq : hG (fun x => !eF x e) xs with
  | none => rfl
  | some k => rw [hq] at h; simp only [ixI] at h; omega
theorem putIx_some {xs : List Entry} {e : Entry} (h : ¬ ixI (hG (fun x => !eF x e) xs) < 0) : ixI (hG (fun x => !eF x e) xs) = (jN xs e : Int) := by
  unfold jN
  cases hq : hG (fun x => !eF x e) xs with
  | none => rw [hq] at h; simp only [ixI] at h; omega
  | some k => rfl
theorem uI {xs : List Entry} {e : Entry} {k : Nat} (hk : k ≤ xs.length) (ha : (xs.take k).any (fun x => !eF x e) = false) (he : k = xs.length ∨ ∃ h : k < xs.length, eF xs[k] e = false) : jN xs e = k := by
  unfold jN
  rcases he with rfl | ⟨h, he⟩
  · rw [List.take_length] at ha
    rw [jA ha]; rfl
  · rw [iZ h ha (by simp [he])]; rfl


theorem uK {a b c : Nat} (h : c ≤ a ∧ c ≤ b) (h2 : c = a ∨ c = b) : Nat.min a b = c := by
  have : Nat.min a b = min a b := rfl
  omega
theorem tP {C : List Value} {o m j : Nat} {v : Value} (h : ((C.drop o).take m)[j]? = some v) : C[o + j]? = some v := by
  rw [List.getElem?_take] at h
  split at h
  · rwa [List.getElem?_drop] at h
  · cases h
theorem vS {W : World} {C : List Value} {xs : List Entry} {k m : Nat} (he : Elems W (C.take (xs.length * Shape.size Entry)) xs []) (hkm : k * 4 + m ≤ xs.length * 4 := by omega) : ∀ v ∈ (C.drop (k * 4)).take m, v.oneCell' = true := by
  intro v hv
  refine he.one v ?_
  obtain ⟨j, hj⟩ := List.mem_iff_getElem?.1 hv
  have hjm : j < m := by
    rw [List.getElem?_take] at hj
    split at hj
    · assumption
    · cases hj
  have := tP hj
  exact List.mem_iff_getElem?.2 ⟨k * 4 + j, by rw [List.getElem?_take, if_pos (by show _ < xs.length * 4; omega)]; exact this⟩
theorem overlaps_E {w0 W : World} {rs : List Res} {b b2 : Nat} {C C2 : List Value} {o2 n1 c1 n2 c2 : Nat} {i : Nat} (hst : St w0 W (Res.bx b C 131 :: rs)) (hi : rs[i]? = some (Res.bx b2 C2 131)) (hC : 0 < C2.length) :
    (callFunc 241 #[.slice (some ⟨b, 0, none⟩) n1 c1, .slice (some ⟨b2, o2, none⟩) n2 c2]).run Tryz.prog W = .ok (.value (.bool false)) W := by
  have hB : W.heap[b]? = some (.cells C.toArray 131 (0, 0)) := hst.get 0 rfl
  have hB2 : W.heap[b2]? = some (.cells C2.toArray 131 (0, 0)) := hst.get (i + 1) (by simpa using hi)
  have hne : b ≠ b2 := by
    have hnd := hst.nodup
    rw [List.flatMap_cons, List.nodup_append] at hnd
    exact fun e => hnd.2.2 b (by simp [Res.bx]) b2 (List.mem_flatMap.2 ⟨_, List.mem_of_getElem? hi, by simp [Res.bx]⟩) e
  rw [run_callFunc_extern Tryz.func241 (by kernel_rfl) (by kernel_rfl) (by kernel_rfl) (e := Extern.SlicesOverlaps.overlaps #[124, 124] #[4]) (by kernel_rfl),
    Go.Lib.run_overlaps_apart W 124 4 131 Tryz.underlying124 4 (fun w => mG sl_EntryS.size w) ⟨b, 0, none⟩ ⟨b2, o2, none⟩ n1 c1 n2 c2 hne 131 131 C.length C2.length
      (by simp [World.shape?, hB]) (by simp [World.shape?, hB2]) (by omega) (by simp [World.frozen?, hB]) (by simp [World.frozen?, hB])]
  rfl

set_option maxHeartbeats 2000000 in
theorem IndexEnt (w : World) {v : Value} {xs : List Entry} {fp : List Nat} (h : Sl w v xs fp) (F : FuncId) (capt : List Value) {fn : Func} (hfn : Tryz.prog.funcs[F]? = some fn) (hok : ((fn.name == "runtime.NumGoroutine") || fn.body.isNone) = false) (p : Entry → Bool)
    (hF : ∀ (w1 : World) (i : Nat) (hi : i < xs.length) (cs : List Value) (f1 : List Nat), Below w.heap.size w w1 → Shape.C w1 cs xs[i] f1 → Calls Tryz.prog F (Value.agg cs.toArray :: capt).toArray w1 fun e w2 => e = .returned (.bool (p xs[i])) ∧ St w1 w2 []) :
    Calls Tryz.prog 227 #[v, .func (.func F) #[] capt.toArray] w fun e w' => e = .returned (I (ixI (hG p xs))) ∧ St w w' [] := by
  have hcap := h.len_le
  refine cF Tryz.func227 rfl Tryz.ntmps227 (by decide) (wp_seq (aA (sg (aD (v := I 0) rfl (aE (wp_seq (wp_seq (aA (sg (aB (v := v) rfl (sg (aV sl_EntryS rfl h (sg (aB (v := I 0) rfl (aE ?_)))))))))))))))
  refine wp_block (bH (fun (m : Nat) (f : Nat → Value) (W : World) => ∃ (k : Nat), k ≤ xs.length ∧ (xs.take k).any p = false ∧ m = xs.length - k ∧ f 0 = v ∧ f 1 = .func (.func F) #[] capt.toArray ∧ f 7 = I (xs.length : Int) ∧ f 8 = I (k : Int) ∧ St w W ([])) (xs.length - 0) ?_ ?_)
  · exact ⟨0, Nat.zero_le _, rfl, rfl, rfl, rfl, rfl, rfl, (St.start w)⟩
  intro m1 f2 W3 hJ4
  obtain ⟨k, hk, hany, rfl, hs6_0, hs6_1, hs6_7, hs6_8, st5⟩ := hJ4
  refine wp_seq (aA (sg (aY hs6_8 hs6_7 (aE (wp_seq (aR rfl (fun h7 => ?_) (fun h7 => ?_)))))))
  · have h7p := of_decide_eq_true h7
    refine wp_skip (wp_seq (wp_block (wp_seq (aA (sg (aB (v := I (k : Int)) hs6_8 (sg (aD (v := I (k : Int)) rfl (aE (wp_seq (aA (sg (aB (v := .func (.func F) #[] capt.toArray) hs6_1 (sg (aB (v := v) hs6_0 ?_)))))))))))))))
    refine sg (aB (v := I (k : Int)) rfl ?_)
    have hi51fab : k < xs.length := (by omega)
    have hq_ := idx h (i := k) hi51fab
    obtain ⟨b8, o8, cs8, f8, hp8, hr8, hc8, hm8⟩ := hq_
    refine sg (aG sl_EntryS rfl hp8 rfl rfl (sg (bY eA rfl rfl hr8 st5.below (Shape.len hc8) (sg (pI (first := []) hfn hok rfl (sM (v := .agg cs8.toArray) rfl tO) ((hF W3 k (by omega) _ _ st5.below (cA hc8 st5.below)).mono ?_)))))); rintro _ W9 ⟨rfl, hk10⟩; refine ⟨_, rfl, ?_⟩
    have st11 := St.call st5 hk10
    refine aE (aR rfl (fun h12 => ?_) (fun h12 => ?_))
    · refine wp_seq (aA (sg (aB (v := I (k : Int)) rfl (sg (aD (v := I (k : Int)) rfl (aE (wp_ret ?_))))))); repeat first|refine aH ?_|refine aI ?_
      refine aW Tryz.results227 rfl ?_
      exact ⟨(congrArg (fun z => Ending.returned (I z)) (by rw [iZ (by omega) hany h12]; try rfl)), st11.bare⟩
    · refine wp_skip (aA (sg (aP hs6_8 rfl (by (simp only [I64] at *; omega)) (sg (aB (v := I ((k : Int) + 1)) rfl (aE ?_))))))
      exact ⟨_, xs.length - (k + 1), (by omega), rfl, k + 1, (by omega), (lQ (by omega) hany h12), rfl, hs6_0, hs6_1, hs6_7, rfl, st11⟩
  · have h7p := of_decide_eq_false h7
    refine wp_exit (wp_seq (aA (sg (aD (v := I (-1)) rfl (aE (wp_ret ?_)))))); repeat first|refine aH ?_|refine aI ?_
    refine aW Tryz.results227 rfl ?_
    obtain rfl : k = xs.length := by omega
    rw [List.take_length] at hany
    exact ⟨(congrArg (fun z => Ending.returned (I z)) (by rw [jA hany]; try rfl)), st5.bare⟩
set_option maxHeartbeats 2000000 in
theorem PutEntryC (w : World) {x : Entry} {cs : List Value} {fp : List Nat} (hc : Shape.C w cs x fp) {b : Nat} {t : TypeId} {e : Entry} (hd : Shape.C w [I e.prio, I e.seq, I e.run, I e.task] e []) (hB : (Res.bx b [I e.prio, I e.seq, I e.run, I e.task] t).holds w) :
    Calls Tryz.prog 228 #[.agg cs.toArray, .pointer (some ⟨b, 0, none⟩)] w fun ee w' => ee = .returned (.bool (!eF x e)) ∧ St w w' [] := by
  refine cF Tryz.func228 rfl Tryz.ntmps228 (by decide) (wp_seq (aA (sg (aQ (cs := cs) rfl (St.start w) ?_)))); intro b1 W2 hb3 st4
  refine sg (aD (v := .bool false) rfl (aE (wp_seq (aA (sg (bE eA rfl rfl (st4.get 0 rfl) (Shape.len hc) (sg (cS (cs := [I e.prio, I e.seq, I e.run, I e.task]) eA rfl rfl (cD hB) st4.below (i := 0) rfl rfl rfl (sg (aZ Tryz.func159 rfl rfl rfl ((wR W2 hc hd).mono ?_))))))))))); rintro _ W6 ⟨rfl, hk7⟩; refine ⟨_, rfl, ?_⟩
  have st8 := St.call st4 hk7
  refine sg (bO rfl (sg (aD (v := .bool (!(eF x e))) rfl (aE (wp_ret ?_))))); repeat first|refine aH ?_|refine aI ?_
  refine aW Tryz.results228 rfl ?_
  exact ⟨rfl, st8.bare⟩
set_option maxHeartbeats 2000000 in
theorem wE {w W0 : World} {rs : List Res} {v : Value} {xs : List Entry} {lb : Nat} {y : Entry} (k : Nat) (hst : St w W0 (Res.row (α := Entry) 131 v xs [] :: Res.bx lb [I y.prio, I y.seq, I y.run, I y.task] 131 :: rs)) (hk : k ≤ xs.length) (hy : y.ok) (hxl : xs.length ≤ 1048576) :
    Calls Tryz.prog 229 #[v, I (k : Int), .slice (some ⟨lb, 0, none⟩) 1 1] W0 fun e w' => ∃ v', e = .returned v' ∧ St w w' (Res.row (α := Entry) 131 v' (xs.take k ++ y :: xs.drop k) [] :: rs) := by
  refine nV Tryz.func229 rfl Tryz.ntmps229 (by decide) (wp_seq (aA (sg (aD (v := .slice none 0 0) rfl (aE (wp_seq (aA (sg (aB (v := v) rfl (sg (aB (v := I (k : Int)) rfl (sg (mC (l := k) sl_EntryS rfl (dL (hst.get 0 rfl)) rfl rfl (by omega) ?_))))))))))))); intro v1 g2 h3 hm4
  refine aE (wp_seq (aA (sg (aB (v := .slice (some ⟨lb, 0, none⟩) 1 1) rfl (sg (stp_xlen sl_EntryS rfl (sg (aD (v := I 1) rfl (aE (wp_seq (wp_seq (aA (sg (aB (v := I 1) rfl (sg (bA rfl rfl ?_))))))))))))))))
  refine aE (aR rfl (fun h5 => ?_) (fun h5 => ?_))
  · have h5p := of_decide_eq_true h5
    exact absurd h5p (by decide)
  · have h5p := of_decide_eq_false h5
    refine wp_skip (wp_seq (aA (sg (aB (v := v) rfl (sg (aV sl_EntryS rfl (dL (hst.get 0 rfl)) (sg (aD (v := I (xs.length : Int)) rfl (aE (wp_seq (wp_seq (aA (sg (aB (v := I (k : Int)) rfl (sg (aB (v := I (xs.length : Int)) rfl ?_))))))))))))))))
    refine sg (bA rfl rfl (aE (aR rfl (fun h6 => ?_) (fun h6 => ?_))))
    · have h6p := of_decide_eq_true h6
      refine wp_seq (aA (sg (aB (v := v) rfl (sg (aB (v := .slice (some ⟨lb, 0, none⟩) 1 1) rfl ?_)))))
      have st7 := hst.f1
      have st8 := st7.f1
      refine sg (eC (ys := [(⟨y.prio, y.seq, y.run, y.task⟩ : Entry)]) dX rfl rfl rfl st8 (Elems.one1 ⟨rfl, rfl, hy⟩) (by unfold maxLen; omega) (by omega) ?_); intro v9 W10 st11
      refine sg (aD (v := v9) rfl (aE (wp_ret ?_))); repeat first|refine aH ?_|refine aI ?_
      refine aW Tryz.results229 rfl ?_
      have hke : k = xs.length := by omega
      subst hke
      refine ⟨_, rfl, ?_⟩
      rw [List.take_length, List.drop_length]
      exact st11
    · have h6p := of_decide_eq_false h6
      refine wp_skip (wp_seq (wp_seq (aA (sg (aB (v := I (xs.length : Int)) rfl (sg (aB (v := I 1) rfl (sg (aP rfl rfl (by (simp only [I64] at *; omega)) (sg (aB (v := v) rfl ?_)))))))))))
      have hq_ := St.rowOpen hst (by omega)
      obtain ⟨bg, cp, Cg, hvv, hcap, hmx, hCl, hel, st13⟩ := hq_
      have hCl4 : Cg.length = cp * 4 := hCl
      subst hvv
      refine sg (stp_xcap sl_EntryS rfl (sg (fV rfl rfl (aE (aR rfl (fun h14 => ?_) (fun h14 => ?_))))))
      · have h14p := of_decide_eq_true h14
        refine wp_seq (aA (sg (aB (v := .slice (some ⟨bg, 0, none⟩) xs.length cp) rfl (sg (aB (v := I (k : Int)) rfl (sg (wH (h := k) sl_EntryS rfl rfl (by omega) (by omega) (by omega) (sg (aB (v := I (xs.length : Int)) rfl (sg (aB (v := I 1) rfl (sg (aP rfl rfl (by (simp only [I64] at *; omega)) (sg (aB (v := I (k : Int)) rfl (sg (fI rfl rfl (by (simp only [I64] at *; omega)) (sg (stp_appz (α := Entry) (k0 := xs.length + 1 - k) (n1 := xs.length + 1) dX Tryz.underlying3 rfl rfl (by omega) (by omega) st13 (by rw [hCl]; exact Nat.mul_le_mul_right _ (by omega)) (by omega) (by omega) (by unfold maxLen; omega) (by omega) ?_))))))))))))))))))); intro b15 cp2 Z2 W16 hcp2 hmx2 hZl hb2 st17
        have hZl4 : Z2.length = (cp2 - k) * 4 := hZl
        refine sg (aD (v := .slice (some ⟨b15, 0, none⟩) (xs.length + 1) cp2) rfl (aE (wp_seq (aA (sg (aB (v := .slice (some ⟨b15, 0, none⟩) (xs.length + 1) cp2) rfl (sg (aB (v := I (k : Int)) rfl (sg (nM (l := k) sl_EntryS rfl rfl (by omega) (by omega) (by omega) (sg (aB (v := .slice (some ⟨lb, 0, none⟩) 1 1) rfl ?_))))))))))))
        refine sg (mU (α := Entry) (C := (Cg.take (k * Shape.size Entry) ++ Z2)) (cs := [I y.prio, I y.seq, I y.run, I y.task]) sl_EntryS rfl rfl (by rw [show Nat.min 1 ((xs.length + 1) - k) = 1 from Nat.min_eq_left (by omega)]; rfl) (fun j v hj => (by rw [Addr.add_mid]; exact cD (st17.get 2 rfl) j v hj)) (by intro v hv; simp only [List.mem_cons, List.not_mem_nil, or_false] at hv; rcases hv with rfl | rfl | rfl | rfl <;> rfl) st17 (by simp only [List.length_cons, List.length_nil, List.length_append, List.length_take, gF, show Shape.size Entry = 4 from rfl]; omega) ?_); intro _ W19 st20
        refine aE (wp_seq (tL 8 [Pl.is (.slice (some ⟨b15, 0, none⟩) (xs.length + 1) cp2) (by rfl), Pl.is (I (k : Int)), Pl.is (I 1), Pl.is (I ((k : Int) + 1)), Pl.is (.slice (some ⟨b15, 0 + (k + 1) * 4, none⟩) ((xs.length + 1) - (k + 1)) (cp2 - (k + 1))) (by rfl), Pl.is (.slice (some ⟨bg, 0, none⟩) xs.length cp) (by rfl), Pl.is (I (k : Int)), Pl.is (.slice (some ⟨bg, 0 + k * 4, none⟩) (xs.length - k) (cp - k)) (by rfl)] mix (by rfl) (by rfl) st20 ⟨(fun f W hst hbl hd hf => aB (v := .slice (some ⟨b15, 0, none⟩) (xs.length + 1) cp2) ((hf 9 rfl).trans (show _ = (.slice (some ⟨b15, 0, none⟩) (xs.length + 1) cp2 : Value) from rfl)) brq), (fun f W hst hbl hd hf => aB (v := I (k : Int)) ((hf 1 rfl).trans (show _ = I (k : Int) from rfl)) brq), (fun f W hst hbl hd hf => aB (v := I 1) ((hf 7 rfl).trans (show _ = I 1 from rfl)) brq), (fun f W hst hbl hd hf => aP (hd 1 47 rfl rfl) (hd 2 48 rfl rfl) (by (simp only [I64] at *; omega)) brq), (fun f W hst hbl hd hf => nM (l := k + 1) sl_EntryS (hd 0 46 rfl rfl) (hd 3 49 rfl rfl) (by omega) (by omega) (by omega) brq), (fun f W hst hbl hd hf => aB (v := .slice (some ⟨bg, 0, none⟩) xs.length cp) ((hf 0 rfl).trans (show _ = (.slice (some ⟨bg, 0, none⟩) xs.length cp : Value) from rfl)) brq), (fun f W hst hbl hd hf => aB (v := I (k : Int)) ((hf 1 rfl).trans (show _ = I (k : Int) from rfl)) brq), (fun f W hst hbl hd hf => nM (l := k) sl_EntryS (hd 5 51 rfl rfl) (hd 6 52 rfl rfl) (by omega) (by omega) (by omega) brq), trivial⟩ ?_))
        intro f21 W22 st23 hb24 hv25 hf26
        refine sg (mU (α := Entry) (C := (cX (Cg.take (k * Shape.size Entry) ++ Z2) (0 + k * 4) [I y.prio, I y.seq, I y.run, I y.task])) (cs := ((Cg.drop (k * 4)).take ((xs.length - k) * 4))) sl_EntryS (hv25 4 50 (by decide) rfl) (hv25 7 53 (by decide) rfl) (by rw [show Nat.min (xs.length - k) ((xs.length + 1) - (k + 1)) = xs.length - k from uK (by omega) (by omega)]; rw [List.length_take, List.length_drop, hCl4, show Shape.size Entry = 4 from rfl]; omega) (fun j v hj => (by rw [Addr.add_mid, Nat.add_assoc]; exact cD (st23.get 1 rfl) _ v (tP hj))) (vS hel) st23 (by simp only [List.length_append, List.length_take, List.length_drop, gF, show Shape.size Entry = 4 from rfl]; omega) ?_); intro _ W27 st28
        refine aE (wp_seq (aA (sg (aB (v := .slice (some ⟨b15, 0, none⟩) (xs.length + 1) cp2) ((hf26 9 rfl).trans (show _ = (.slice (some ⟨b15, 0, none⟩) (xs.length + 1) cp2 : Value) from rfl)) (sg (aD (v := .slice (some ⟨b15, 0, none⟩) (xs.length + 1) cp2) rfl (aE (wp_ret ?_)))))))); repeat first|refine aH ?_|refine aI ?_
        refine aW Tryz.results229 rfl ?_
        have hel_ : Elems _ (Cg.take (xs.length * 4)) xs [] := hel
        have hYe : Elems W27 [I y.prio, I y.seq, I y.run, I y.task] [y] [] := Elems.one1 ⟨rfl, rfl, hy⟩
        have hq_ := ins_new (D := Cg.take (k * 4) ++ Z2) (a := k * 4) (Y := [I y.prio, I y.seq, I y.run, I y.task]) (M := (Cg.drop (k * 4)).take ((xs.length - k) * 4)) rfl (by simp only [List.length_append, List.length_take, List.length_drop, List.length_cons, List.length_nil, gF, show Shape.size Entry = 4 from rfl]; omega)
        obtain ⟨T, hT⟩ := hq_
        rw [List.take_append_of_le_length (by rw [List.length_take]; omega), List.take_take, Nat.min_self] at hT
        have hfin := sS (W := _) (W' := W27) (y := y) (k := k) (by omega) (hel_) (by omega) hYe hT
        have hCe : (cX (cX (Cg.take (k * Shape.size Entry) ++ Z2) (0 + k * 4) [I y.prio, I y.seq, I y.run, I y.task]) (0 + (k + 1) * 4) ((Cg.drop (k * 4)).take ((xs.length - k) * 4))) = cX (cX (Cg.take (k * 4) ++ Z2) (k * 4) [I y.prio, I y.seq, I y.run, I y.task]) (k * 4 + 4) ((Cg.drop (k * 4)).take ((xs.length - k) * 4)) := by simp only [Nat.zero_add, Nat.add_mul, Nat.one_mul, show Shape.size Entry = 4 from rfl]
        have stz : St w W27 (Res.bx b15 (cX (cX (Cg.take (k * Shape.size Entry) ++ Z2) (0 + k * 4) [I y.prio, I y.seq, I y.run, I y.task]) (0 + (k + 1) * 4) ((Cg.drop (k * 4)).take ((xs.length - k) * 4))) 131 :: _) := st28
        rw [hCe] at stz
        have hl4 : (cX (cX (Cg.take (k * 4) ++ Z2) (k * 4) [I y.prio, I y.seq, I y.run, I y.task]) (k * 4 + 4) ((Cg.drop (k * 4)).take ((xs.length - k) * 4))).length = cp2 * Shape.size Entry := by rw [← hCe]; simp only [List.length_append, List.length_take, List.length_drop, gF, show Shape.size Entry = 4 from rfl]; omega
        have stf := St.rowShut (α := Entry) (xs := xs.take k ++ y :: xs.drop k) (m := xs.length + 1) (cap := cp2) stz (by rw [List.length_append, List.length_cons, List.length_take, List.length_drop]; omega) (by omega) (by omega) hl4 hfin
        exact ⟨_, rfl, stf.d1.d1⟩
      · have h14p := of_decide_eq_false h14
        refine wp_skip (wp_seq (aA (sg (aB (v := .slice (some ⟨bg, 0, none⟩) xs.length cp) rfl (sg (aB (v := I (xs.length : Int)) rfl (sg (aB (v := I 1) rfl (sg (aP rfl rfl (by (simp only [I64] at *; omega)) (sg (wH (h := (xs.length) + 1) sl_EntryS rfl rfl (by omega) (by omega) (by omega) (sg (aD (v := .slice (some ⟨bg, 0, none⟩) ((xs.length) + 1) cp) rfl (aE (wp_seq (wp_seq ?_)))))))))))))))))
        refine aA (sg (aB (v := .slice (some ⟨lb, 0, none⟩) 1 1) rfl (sg (aB (v := .slice (some ⟨bg, 0, none⟩) ((xs.length) + 1) cp) rfl (sg (aB (v := I (k : Int)) rfl (sg (aB (v := I 1) rfl (sg (aP rfl rfl (by (simp only [I64] at *; omega)) (sg (nM (l := k + 1) sl_EntryS rfl rfl (by omega) (by omega) (by omega) ?_))))))))))))
        have st30 := st13.f1
        refine sg (stp_callx rfl rfl (overlaps_E st30 (i := 0) rfl (by omega)) (sg (bO rfl (aE (gV rfl rfl (wp_seq (tL 8 [Pl.is (.slice (some ⟨bg, 0, none⟩) ((xs.length) + 1) cp) (by rfl), Pl.is (I (k : Int)), Pl.is (I 1), Pl.is (I ((k : Int) + 1)), Pl.is (.slice (some ⟨bg, 0 + (k + 1) * 4, none⟩) (((xs.length) + 1) - (k + 1)) (cp - (k + 1))) (by rfl), Pl.is (.slice (some ⟨bg, 0, none⟩) ((xs.length) + 1) cp) (by rfl), Pl.is (I (k : Int)), Pl.is (.slice (some ⟨bg, 0 + k * 4, none⟩) (((xs.length) + 1) - k) (cp - k)) (by rfl)] mix (by rfl) (by rfl) st30 ⟨(fun f W hst hbl hd hf => aB (v := .slice (some ⟨bg, 0, none⟩) ((xs.length) + 1) cp) ((hf 0 rfl).trans (show _ = (.slice (some ⟨bg, 0, none⟩) ((xs.length) + 1) cp : Value) from rfl)) brq), (fun f W hst hbl hd hf => aB (v := I (k : Int)) ((hf 1 rfl).trans (show _ = I (k : Int) from rfl)) brq), (fun f W hst hbl hd hf => aB (v := I 1) ((hf 7 rfl).trans (show _ = I 1 from rfl)) brq), (fun f W hst hbl hd hf => aP (hd 1 70 rfl rfl) (hd 2 71 rfl rfl) (by (simp only [I64] at *; omega)) brq), (fun f W hst hbl hd hf => nM (l := k + 1) sl_EntryS (hd 0 69 rfl rfl) (hd 3 72 rfl rfl) (by omega) (by omega) (by omega) brq), (fun f W hst hbl hd hf => aB (v := .slice (some ⟨bg, 0, none⟩) ((xs.length) + 1) cp) ((hf 0 rfl).trans (show _ = (.slice (some ⟨bg, 0, none⟩) ((xs.length) + 1) cp : Value) from rfl)) brq), (fun f W hst hbl hd hf => aB (v := I (k : Int)) ((hf 1 rfl).trans (show _ = I (k : Int) from rfl)) brq), (fun f W hst hbl hd hf => nM (l := k) sl_EntryS (hd 5 74 rfl rfl) (hd 6 75 rfl rfl) (by omega) (by omega) (by omega) brq), trivial⟩ ?_)))))))
        intro f31 W32 st33 hb34 hv35 hf36
        have st37 := st33.f1
        refine sg (mU (α := Entry) (C := Cg) (cs := ((Cg.drop (k * 4)).take ((xs.length - k) * 4))) sl_EntryS (hv35 4 73 (by decide) rfl) (hv35 7 76 (by decide) rfl) (by rw [show Nat.min (((xs.length) + 1) - k) (((xs.length) + 1) - (k + 1)) = xs.length - k from uK (by omega) (by omega)]; rw [List.length_take, List.length_drop, hCl4, show Shape.size Entry = 4 from rfl]; omega) (fun j v hj => (by rw [Addr.add_mid, Nat.add_assoc]; exact cD (st37.get 0 rfl) _ v (tP hj))) (vS hel) st37 (by simp only [List.length_append, List.length_take, List.length_drop, gF, show Shape.size Entry = 4 from rfl]; omega) ?_); intro _ W38 st39
        refine aE (wp_seq (aA (sg (aB (v := .slice (some ⟨bg, 0, none⟩) ((xs.length) + 1) cp) ((hf36 0 rfl).trans (show _ = (.slice (some ⟨bg, 0, none⟩) ((xs.length) + 1) cp : Value) from rfl)) (sg (aB (v := I (k : Int)) ((hf36 1 rfl).trans (show _ = I (k : Int) from rfl)) (sg (nM (l := k) sl_EntryS rfl rfl (by omega) (by omega) (by omega) (sg (aB (v := .slice (some ⟨lb, 0, none⟩) 1 1) ((hf36 2 rfl).trans (show _ = (.slice (some ⟨lb, 0, none⟩) 1 1 : Value) from rfl)) ?_))))))))))
        refine sg (mU (α := Entry) (C := (cX Cg (0 + (k + 1) * 4) ((Cg.drop (k * 4)).take ((xs.length - k) * 4)))) (cs := [I y.prio, I y.seq, I y.run, I y.task]) sl_EntryS rfl rfl (by rw [show Nat.min 1 (((xs.length) + 1) - k) = 1 from Nat.min_eq_left (by omega)]; rfl) (fun j v hj => (by rw [Addr.add_mid]; exact cD (st39.get 1 rfl) j v hj)) (by intro v hv; simp only [List.mem_cons, List.not_mem_nil, or_false] at hv; rcases hv with rfl | rfl | rfl | rfl <;> rfl) st39 (by simp only [List.length_cons, List.length_nil, List.length_append, List.length_take, gF, show Shape.size Entry = 4 from rfl]; omega) ?_); intro _ W40 st41
        refine aE (wp_seq (aA (sg (aB (v := .slice (some ⟨bg, 0, none⟩) ((xs.length) + 1) cp) ((hf36 0 rfl).trans (show _ = (.slice (some ⟨bg, 0, none⟩) ((xs.length) + 1) cp : Value) from rfl)) (sg (aD (v := .slice (some ⟨bg, 0, none⟩) ((xs.length) + 1) cp) rfl (aE (wp_ret ?_)))))))); repeat first|refine aH ?_|refine aI ?_
        refine aW Tryz.results229 rfl ?_
        have hel_ : Elems _ (Cg.take (xs.length * 4)) xs [] := hel
        have hYe : Elems W40 [I y.prio, I y.seq, I y.run, I y.task] [y] [] := Elems.one1 ⟨rfl, rfl, hy⟩
        have hq_ := ins_in (D := Cg) (a := k * 4) (Y := [I y.prio, I y.seq, I y.run, I y.task]) (M := (Cg.drop (k * 4)).take ((xs.length - k) * 4)) rfl (by simp only [List.length_append, List.length_take, List.length_drop, List.length_cons, List.length_nil, gF, show Shape.size Entry = 4 from rfl]; omega)
        obtain ⟨T, hT⟩ := hq_
        have hfin := sS (W := _) (W' := W40) (y := y) (k := k) (by omega) (hel_) (by omega) hYe hT
        have hCe : (cX (cX Cg (0 + (k + 1) * 4) ((Cg.drop (k * 4)).take ((xs.length - k) * 4))) (0 + k * 4) [I y.prio, I y.seq, I y.run, I y.task]) = cX (cX Cg (k * 4 + 4) ((Cg.drop (k * 4)).take ((xs.length - k) * 4))) (k * 4) [I y.prio, I y.seq, I y.run, I y.task] := by simp only [Nat.zero_add, Nat.add_mul, Nat.one_mul]
        have stz : St w W40 (Res.bx bg (cX (cX Cg (0 + (k + 1) * 4) ((Cg.drop (k * 4)).take ((xs.length - k) * 4))) (0 + k * 4) [I y.prio, I y.seq, I y.run, I y.task]) 131 :: _) := st41
        rw [hCe] at stz
        have hl4 : (cX (cX Cg (k * 4 + 4) ((Cg.drop (k * 4)).take ((xs.length - k) * 4))) (k * 4) [I y.prio, I y.seq, I y.run, I y.task]).length = cp * Shape.size Entry := by rw [← hCe]; simp only [List.length_append, List.length_take, List.length_drop, gF, show Shape.size Entry = 4 from rfl]; omega
        have stf := St.rowShut (α := Entry) (xs := xs.take k ++ y :: xs.drop k) (m := xs.length + 1) (cap := cp) stz (by rw [List.length_append, List.length_cons, List.length_take, List.length_drop]; omega) (by omega) (by omega) hl4 hfin
        exact ⟨_, rfl, stf.d1⟩
set_option maxHeartbeats 2000000 in
theorem PutEntryI (w : World) {v : Value} {xs : List Entry} {fp : List Nat} (h : Sl w v xs fp) {ds : List Value} {e : Entry} {gp : List Nat} (hde : Shape.C w ds e gp) (hxl : xs.length ≤ 1048576) :
    Calls Tryz.prog 192 #[v, .agg ds.toArray] w fun ee w' => ∃ (v' : Value) (fp' : List Nat), ee = .returned v' ∧ St w w' [Res.own v' (lU xs e) fp'] := by
  have hd_ := hde
  obtain ⟨rfl, rfl, hok⟩ := hd_
  have hpl := qV xs e
  refine cF Tryz.func192 rfl Tryz.ntmps192 (by decide) (wp_seq (aA (sg (aQ (cs := [I e.prio, I e.seq, I e.run, I e.task]) rfl (St.start w) ?_)))); intro b1 W2 hb3 st4
  refine sg (aD (v := .slice none 0 0) rfl (aE (wp_seq (aA (sg (aB (v := v) rfl (sg (kV tO (sM (v := .pointer (some ⟨b1, 0, none⟩)) rfl tO) (sg (aZ Tryz.func227 rfl rfl rfl ((IndexEnt W2 (h.below st4.below) 228 [.pointer (some ⟨b1, 0, none⟩)] Tryz.func228 rfl (fun x => !eF x e) (fun w1 i hi cs f1 hb hc => PutEntryC w1 hc (show Shape.C _ _ _ _ from hde) (Res.below (st4.get 0 rfl) hb))).mono ?_))))))))))); rintro _ W6 ⟨rfl, hk7⟩; refine ⟨_, rfl, ?_⟩
  have st8 := St.call st4 hk7
  refine sg (aD (v := I (ixI (hG (fun x => !eF x e) xs))) rfl (aE (wp_seq (wp_seq (aA (sg (aB (v := I (ixI (hG (fun x => !eF x e) xs))) rfl (sg (aY rfl rfl (aE (aR rfl (fun h9 => ?_) (fun h9 => ?_))))))))))))
  · have h9p := of_decide_eq_true h9
    refine aA (sg (aB (v := v) rfl (sg (aV sl_EntryS rfl h (sg (aD (v := I (xs.length : Int)) rfl (aE (wp_seq (iH 5 [1, 4] [[], [1], [4], [1, 4]] [[(0, 1), (2, 3)], [(1, 3), (0, 2)]] (w1 := W6) (rs := [Res.bx b1 [I e.prio, I e.seq, I e.run, I e.task] 131]) (fun q => match q with | 0 => Cp.of (ι := Unit) (fun _ => []) (fun _ => [Res.bx b1 [I e.prio, I e.seq, I e.run, I e.task] 131]) (fun _ _ h => h.dropn 0) | 1 => Cp.of (ι := Value) (fun v11 => [v11]) (fun v11 => [Res.row (α := Entry) 131 v11 xs [], Res.bx b1 [I e.prio, I e.seq, I e.run, I e.task] 131]) (fun _ _ h => h.dropn 1) | 2 => Cp.of (ι := Nat) (fun b24 => [.slice (some ⟨b24, 0, none⟩) 1 1]) (fun b24 => [Res.bx b24 [I e.prio, I e.seq, I e.run, I e.task] 131, Res.bx b1 [I e.prio, I e.seq, I e.run, I e.task] 131]) (fun _ _ h => h.dropn 1) | _ => Cp.of (ι := Nat × Value) (fun ⟨b18, v11⟩ => [v11, .slice (some ⟨b18, 0, none⟩) 1 1]) (fun ⟨b18, v11⟩ => [Res.bx b18 [I e.prio, I e.seq, I e.run, I e.task] 131, Res.row (α := Entry) 131 v11 xs [], Res.bx b1 [I e.prio, I e.seq, I e.run, I e.task] 131]) (fun _ _ h => h.dropn 2)) [Pq.is (v) (Sl.yl h), Pq.none, Pq.is (I (jN xs e : Int)), Pq.is (.agg #[I e.prio, I e.seq, I e.run, I e.task]), Pq.none] mix (by rfl) (by rfl) (by rfl) ⟨(), rfl, st8, (Below.refl _ _)⟩ (by rfl) ⟨(fun f W hst hbl hd hf => aB (v := v) ((hf 0 rfl).trans (show _ = v from rfl)) brq), ⟨rfl, ?_, ?_, True.intro⟩, (fun f W hst hbl hd hf => aB (v := I (jN xs e : Int)) ((hf 5 rfl).trans (Eq.trans (show _ = I (xs.length : Int) from rfl) (congrArg I (by rw [putIx_none h9p])))) brq), (fun f W hst hbl hd hf => aU (cs := [I e.prio, I e.seq, I e.run, I e.task]) eA rfl ((hf 3 rfl).trans (show _ = (.pointer (some ⟨b1, 0, none⟩) : Value) from rfl)) (hst.get 0 rfl) rfl rfl brq), ⟨rfl, ?_, ?_, True.intro⟩, trivial⟩ ?_)))))))))
    · intro f W hC hd hf
      have hC_ := hC
      obtain ⟨_, hu, hst, hbl⟩ := hC_
      have st10 : St w W ([Res.bx b1 [I e.prio, I e.seq, I e.run, I e.task] 131]) := hst
      refine (bI Tryz.func174 rfl (hd 0 13 rfl rfl) ((iT W (h.below st10.below) (by omega)).mono ?_)); rintro _ W13 ⟨v11, rfl, hk14⟩; refine ⟨_, rfl, ?_⟩
      have st15 := St.call st10 hk14
      exact ⟨⟨v11, (ce rfl rfl), st15, (hbl.trans (Below.mono hk14.below hbl.size))⟩, Sl.yl (dL (st15.get 0 rfl))⟩
    · intro f W hC hd hf
      have hC_ := hC
      obtain ⟨b24, hu, hst, hbl⟩ := hC_
      have st29 : St w W ([Res.bx b24 [I e.prio, I e.seq, I e.run, I e.task] 131, Res.bx b1 [I e.prio, I e.seq, I e.run, I e.task] 131]) := hst
      have hu1_17 : f 17 = .slice (some ⟨b24, 0, none⟩) 1 1 := congrArg (fun l => l.getD 0 undef) hu
      refine (bI Tryz.func174 rfl (hd 0 13 rfl rfl) ((iT W (h.below st29.below) (by omega)).mono ?_)); rintro _ W32 ⟨v30, rfl, hk33⟩; refine ⟨_, rfl, ?_⟩
      have st34 := St.call st29 hk33
      have st36 := st34.f2
      have st37 := st36.f1
      have st38 := st37.f2
      exact ⟨⟨(b24, v30), (ce rfl (ce hu1_17 rfl)), st38, (hbl.trans (Below.mono hk33.below hbl.size))⟩, Sl.yl (dL (st38.get 1 rfl))⟩
    · intro f W hC hd hf
      have hC_ := hC
      obtain ⟨v11, hu, hst, hbl⟩ := hC_
      have st17 : St w W ([Res.row (α := Entry) 131 v11 xs [], Res.bx b1 [I e.prio, I e.seq, I e.run, I e.task] 131]) := hst
      have hu4_14 : f 14 = v11 := congrArg (fun l => l.getD 0 undef) hu
      refine (bR (cs := [I e.prio, I e.seq, I e.run, I e.task]) (e := 131) (eG (v := .agg #[I e.prio, I e.seq, I e.run, I e.task]) (hd 3 16 rfl rfl) gK) (cG dX _ _ rfl rfl (by decide)) st17 ?_); intro b18 W19 hb20 st21
      exact ⟨⟨(b18, v11), (ce hu4_14 (ce rfl rfl)), st21, (hbl.trans (Below.mono hb20 hbl.size))⟩, rfl⟩
    · intro f W hC hd hf
      have hC_ := hC
      obtain ⟨_, hu, hst, hbl⟩ := hC_
      have st23 : St w W ([Res.bx b1 [I e.prio, I e.seq, I e.run, I e.task] 131]) := hst
      refine (bR (cs := [I e.prio, I e.seq, I e.run, I e.task]) (e := 131) (eG (v := .agg #[I e.prio, I e.seq, I e.run, I e.task]) (hd 3 16 rfl rfl) gK) (cG dX _ _ rfl rfl (by decide)) st23 ?_); intro b24 W25 hb26 st27
      exact ⟨⟨b24, (ce rfl rfl), st27, (hbl.trans (Below.mono hb26 hbl.size))⟩, rfl⟩
    intro f39 W40 hC hv41 hf42
    have hC_ := hC
    obtain ⟨⟨b18, v11⟩, hu, hst, hbl44⟩ := hC_
    have st43 : St w W40 ([Res.bx b18 [I e.prio, I e.seq, I e.run, I e.task] 131, Res.row (α := Entry) 131 v11 xs [], Res.bx b1 [I e.prio, I e.seq, I e.run, I e.task] 131]) := hst
    have hu45 : f39 14 = v11 := congrArg (fun l => l.getD 0 undef) hu
    have hu46 : f39 17 = .slice (some ⟨b18, 0, none⟩) 1 1 := congrArg (fun l => l.getD 1 undef) hu
    have st48 := st43.f1
    refine sg (bS Tryz.func229 rfl hu45 (hv41 2 15 (by decide) rfl) hu46 ((wE (y := e) (jN xs e) st48 (by omega) (by assumption) (by omega)).mono ?_)); rintro _ W47 ⟨v50, rfl, st49⟩; refine ⟨_, rfl, ?_⟩
    refine sg (aD (v := v50) rfl (aE (wp_ret ?_))); repeat first|refine aH ?_|refine aI ?_
    refine aW Tryz.results192 rfl ?_
    have hq_ := st49.shut
    obtain ⟨fp52, st51⟩ := hq_
    exact ⟨_, _, rfl, st51.only 0 rfl⟩
  · have h9p := of_decide_eq_false h9
    refine wp_skip (wp_seq (iH 5 [1, 4] [[], [1], [4], [1, 4]] [[(0, 1), (2, 3)], [(1, 3), (0, 2)]] (w1 := W6) (rs := [Res.bx b1 [I e.prio, I e.seq, I e.run, I e.task] 131]) (fun q => match q with | 0 => Cp.of (ι := Unit) (fun _ => []) (fun _ => [Res.bx b1 [I e.prio, I e.seq, I e.run, I e.task] 131]) (fun _ _ h => h.dropn 0) | 1 => Cp.of (ι := Value) (fun v54 => [v54]) (fun v54 => [Res.row (α := Entry) 131 v54 xs [], Res.bx b1 [I e.prio, I e.seq, I e.run, I e.task] 131]) (fun _ _ h => h.dropn 1) | 2 => Cp.of (ι := Nat) (fun b67 => [.slice (some ⟨b67, 0, none⟩) 1 1]) (fun b67 => [Res.bx b67 [I e.prio, I e.seq, I e.run, I e.task] 131, Res.bx b1 [I e.prio, I e.seq, I e.run, I e.task] 131]) (fun _ _ h => h.dropn 1) | _ => Cp.of (ι := Nat × Value) (fun ⟨b61, v54⟩ => [v54, .slice (some ⟨b61, 0, none⟩) 1 1]) (fun ⟨b61, v54⟩ => [Res.bx b61 [I e.prio, I e.seq, I e.run, I e.task] 131, Res.row (α := Entry) 131 v54 xs [], Res.bx b1 [I e.prio, I e.seq, I e.run, I e.task] 131]) (fun _ _ h => h.dropn 2)) [Pq.is (v) (Sl.yl h), Pq.none, Pq.is (I (jN xs e : Int)), Pq.is (.agg #[I e.prio, I e.seq, I e.run, I e.task]), Pq.none] mix (by rfl) (by rfl) (by rfl) ⟨(), rfl, st8, (Below.refl _ _)⟩ (by rfl) ⟨(fun f W hst hbl hd hf => aB (v := v) ((hf 0 rfl).trans (show _ = v from rfl)) brq), ⟨rfl, ?_, ?_, True.intro⟩, (fun f W hst hbl hd hf => aB (v := I (jN xs e : Int)) ((hf 5 rfl).trans (Eq.trans (show _ = I (ixI (hG (fun x => !eF x e) xs)) from rfl) (congrArg I (putIx_some h9p)))) brq), (fun f W hst hbl hd hf => aU (cs := [I e.prio, I e.seq, I e.run, I e.task]) eA rfl ((hf 3 rfl).trans (show _ = (.pointer (some ⟨b1, 0, none⟩) : Value) from rfl)) (hst.get 0 rfl) rfl rfl brq), ⟨rfl, ?_, ?_, True.intro⟩, trivial⟩ ?_))
    · intro f W hC hd hf
      have hC_ := hC
      obtain ⟨_, hu, hst, hbl⟩ := hC_
      have st53 : St w W ([Res.bx b1 [I e.prio, I e.seq, I e.run, I e.task] 131]) := hst
      refine (bI Tryz.func174 rfl (hd 0 13 rfl rfl) ((iT W (h.below st53.below) (by omega)).mono ?_)); rintro _ W56 ⟨v54, rfl, hk57⟩; refine ⟨_, rfl, ?_⟩
      have st58 := St.call st53 hk57
      exact ⟨⟨v54, (ce rfl rfl), st58, (hbl.trans (Below.mono hk57.below hbl.size))⟩, Sl.yl (dL (st58.get 0 rfl))⟩
    · intro f W hC hd hf
      have hC_ := hC
      obtain ⟨b67, hu, hst, hbl⟩ := hC_
      have st72 : St w W ([Res.bx b67 [I e.prio, I e.seq, I e.run, I e.task] 131, Res.bx b1 [I e.prio, I e.seq, I e.run, I e.task] 131]) := hst
      have hu1_17 : f 17 = .slice (some ⟨b67, 0, none⟩) 1 1 := congrArg (fun l => l.getD 0 undef) hu
      refine (bI Tryz.func174 rfl (hd 0 13 rfl rfl) ((iT W (h.below st72.below) (by omega)).mono ?_)); rintro _ W75 ⟨v73, rfl, hk76⟩; refine ⟨_, rfl, ?_⟩
      have st77 := St.call st72 hk76
      have st79 := st77.f2
      have st80 := st79.f1
      have st81 := st80.f2
      exact ⟨⟨(b67, v73), (ce rfl (ce hu1_17 rfl)), st81, (hbl.trans (Below.mono hk76.below hbl.size))⟩, Sl.yl (dL (st81.get 1 rfl))⟩
    · intro f W hC hd hf
      have hC_ := hC
      obtain ⟨v54, hu, hst, hbl⟩ := hC_
      have st60 : St w W ([Res.row (α := Entry) 131 v54 xs [], Res.bx b1 [I e.prio, I e.seq, I e.run, I e.task] 131]) := hst
      have hu4_14 : f 14 = v54 := congrArg (fun l => l.getD 0 undef) hu
      refine (bR (cs := [I e.prio, I e.seq, I e.run, I e.task]) (e := 131) (eG (v := .agg #[I e.prio, I e.seq, I e.run, I e.task]) (hd 3 16 rfl rfl) gK) (cG dX _ _ rfl rfl (by decide)) st60 ?_); intro b61 W62 hb63 st64
      exact ⟨⟨(b61, v54), (ce hu4_14 (ce rfl rfl)), st64, (hbl.trans (Below.mono hb63 hbl.size))⟩, rfl⟩
    · intro f W hC hd hf
      have hC_ := hC
      obtain ⟨_, hu, hst, hbl⟩ := hC_
      have st66 : St w W ([Res.bx b1 [I e.prio, I e.seq, I e.run, I e.task] 131]) := hst
      refine (bR (cs := [I e.prio, I e.seq, I e.run, I e.task]) (e := 131) (eG (v := .agg #[I e.prio, I e.seq, I e.run, I e.task]) (hd 3 16 rfl rfl) gK) (cG dX _ _ rfl rfl (by decide)) st66 ?_); intro b67 W68 hb69 st70
      exact ⟨⟨b67, (ce rfl rfl), st70, (hbl.trans (Below.mono hb69 hbl.size))⟩, rfl⟩
    intro f82 W83 hC hv84 hf85
    have hC_ := hC
    obtain ⟨⟨b61, v54⟩, hu, hst, hbl87⟩ := hC_
    have st86 : St w W83 ([Res.bx b61 [I e.prio, I e.seq, I e.run, I e.task] 131, Res.row (α := Entry) 131 v54 xs [], Res.bx b1 [I e.prio, I e.seq, I e.run, I e.task] 131]) := hst
    have hu88 : f82 14 = v54 := congrArg (fun l => l.getD 0 undef) hu
    have hu89 : f82 17 = .slice (some ⟨b61, 0, none⟩) 1 1 := congrArg (fun l => l.getD 1 undef) hu
    have st91 := st86.f1
    refine sg (bS Tryz.func229 rfl hu88 (hv84 2 15 (by decide) rfl) hu89 ((wE (y := e) (jN xs e) st91 (by omega) (by assumption) (by omega)).mono ?_)); rintro _ W90 ⟨v93, rfl, st92⟩; refine ⟨_, rfl, ?_⟩
    refine sg (aD (v := v93) rfl (aE (wp_ret ?_))); repeat first|refine aH ?_|refine aI ?_
    refine aW Tryz.results192 rfl ?_
    have hq_ := st92.shut
    obtain ⟨fp95, st94⟩ := hq_
    exact ⟨_, _, rfl, st94.only 0 rfl⟩
set_option maxHeartbeats 2000000 in
theorem tJ (w : World) {v : Value} {xs : List Entry} {fp : List Nat} (h : Sl w v xs fp) {ds : List Value} {e : Entry} {gp : List Nat} (hde : Shape.C w ds e gp) (hxl : xs.length ≤ 1048576) :
    Calls Tryz.prog 187 #[v, .agg ds.toArray] w fun ee w' => ∃ (v' : Value) (fp' : List Nat), ee = .returned v' ∧ St w w' [Res.own v' (lU xs e) fp'] := by
  have hd_ := hde
  obtain ⟨rfl, rfl, hok⟩ := hd_
  have hpl := qV xs e
  refine cF Tryz.func187 rfl Tryz.ntmps187 (by decide) (wp_seq (aA (sg (aQ (cs := [I e.prio, I e.seq, I e.run, I e.task]) rfl (St.start w) ?_)))); intro b1 W2 hb3 st4
  refine sg (aD (v := .slice none 0 0) rfl (aE (wp_seq (aA (sg (aD (v := I 0) rfl (aE (wp_seq (wp_block (bH (fun (m : Nat) (f : Nat → Value) (W : World) => ∃ (k : Nat), k ≤ xs.length ∧ (xs.take k).any (fun x => !eF x e) = false ∧ m = xs.length - k ∧ f 0 = v ∧ f 3 = .pointer (some ⟨b1, 0, none⟩) ∧ f 5 = I (k : Int) ∧ St w W ([Res.bx b1 [I e.prio, I e.seq, I e.run, I e.task] 131])) (xs.length - 0) ?_ ?_))))))))))
  · exact ⟨0, Nat.zero_le _, rfl, rfl, rfl, rfl, rfl, st4⟩
  intro m6 f7 W8 hJ9
  obtain ⟨k, hk, hany, rfl, hs11_0, hs11_3, hs11_5, st10⟩ := hJ9
  refine wp_seq (wp_seq ?_)
  rcases bd (decide ((k : Int) < (xs.length : Int))) with h12 | h12
  · have h12p := of_decide_eq_false h12
    refine dI [Pl.is (I (k : Int)), Pl.is (v) (Sl.yl h), Pl.is (I (xs.length : Int)), Pl.bool false, Pl.bool false, Pl.off, Pl.off, Pl.off, Pl.off, Pl.off, Pl.off, Pl.bool false] mix (by rfl) st10 ⟨(fun f W hst hbl hd hf => aB (v := I (k : Int)) ((hf 5 rfl).trans hs11_5) brq), (fun f W hst hbl hd hf => aB (v := v) ((hf 0 rfl).trans hs11_0) brq), (fun f W hst hbl hd hf => aV sl_EntryS (hd 1 8 rfl rfl) h brq), (fun f W hst hbl hd hf => aY (hd 0 7 rfl rfl) (hd 2 9 rfl rfl) ⟨Below.refl _ _, congrArg Value.bool h12⟩), (fun f W hst hbl hd hf => aB (v := .bool false) (hd 3 10 rfl rfl) brq), (fun f W hst hbl hd hf => rfl), (fun f W hst hbl hd hf => rfl), (fun f W hst hbl hd hf => rfl), (fun f W hst hbl hd hf => rfl), (fun f W hst hbl hd hf => rfl), (fun f W hst hbl hd hf => rfl), (fun f W hst hbl hd hf => aO (v := .bool false) (hd 4 11 rfl rfl) rfl brq), trivial⟩ ?_
    intro f13 W14 st15 hb16 hv17 hf18
    refine gX (hv17 11 18 (by decide) rfl) rfl (wp_exit (wp_seq (aA (sg (bR (cs := []) (e := 131) gK (eQ dX _) st15 ?_))))); intro b19 W20 hb21 st22
    have st22 := st22.row_empty (α := Entry)
    refine sg (aB (v := v) ((hf18 0 rfl).trans hs11_0) (sg (aB (v := I (k : Int)) ((hf18 5 rfl).trans hs11_5) (sg (mD (h := k) sl_EntryS rfl h rfl rfl (by omega) ?_))))); intro v24 g25 h26 hm27
    refine sg (eJ gQ dX rfl rfl h26 st22.below st22 (by simp only [List.length_append, List.length_take, List.length_drop, List.length_cons, List.length_nil]; unfold maxLen; omega) (by simp only [List.length_append, List.length_take, List.length_drop, List.length_cons, List.length_nil]; omega) ?_); intro v28 W29 st30
    refine sg (aD (v := v28) rfl (aE (wp_seq (aA (sg (aB (v := v28) rfl (sg (aU (cs := [I e.prio, I e.seq, I e.run, I e.task]) eA rfl ((hf18 3 rfl).trans hs11_3) (st30.get 1 rfl) rfl rfl (sg (bR (cs := [I e.prio, I e.seq, I e.run, I e.task]) (e := 131) (eG (v := .agg #[I e.prio, I e.seq, I e.run, I e.task]) rfl gK) (cG dX _ _ rfl rfl (by decide)) st30 ?_)))))))))); intro b31 W32 hb33 st34
    have st36 := st34.f1
    refine sg (eC (ys := [(⟨e.prio, e.seq, e.run, e.task⟩ : Entry)]) dX rfl rfl rfl st36 (Elems.one1 ⟨rfl, rfl, hok⟩) (by simp only [List.length_append, List.length_take, List.length_drop, List.length_cons, List.length_nil]; unfold maxLen; omega) (by simp only [List.length_append, List.length_take, List.length_drop, List.length_cons, List.length_nil]; omega) ?_); intro v37 W38 st39
    refine sg (aD (v := v37) rfl (aE (wp_seq (aA (sg (aB (v := v37) rfl (sg (aB (v := v) ((hf18 0 rfl).trans hs11_0) (sg (aB (v := I (k : Int)) ((hf18 5 rfl).trans hs11_5) (sg (mC (l := k) sl_EntryS rfl h rfl rfl (by omega) ?_)))))))))))); intro v40 g41 h42 hm43
    refine sg (eJ gQ dX rfl rfl h42 st39.below st39 (by simp only [List.length_append, List.length_take, List.length_drop, List.length_cons, List.length_nil]; unfold maxLen; omega) (by simp only [List.length_append, List.length_take, List.length_drop, List.length_cons, List.length_nil]; omega) ?_); intro v44 W45 st46
    refine sg (aD (v := v44) rfl (aE (wp_ret ?_))); repeat first|refine aH ?_|refine aI ?_
    refine aW Tryz.results187 rfl ?_
    have hq_ := st46.shut
    obtain ⟨fp48, st47⟩ := hq_
    have hpk := uI (e := e) (k := k) (by omega) hany (.inl (by omega))
    have hfe : lU xs e = ([] ++ xs.take k ++ [e]) ++ xs.drop k := by unfold lU; rw [hpk]; simp
    rw [hfe]
    exact ⟨_, _, rfl, st47.only 0 rfl⟩
  · have h12p := of_decide_eq_true h12
    have hi51fab : k < xs.length := (by omega)
    have hq_ := idx h (i := k) hi51fab
    obtain ⟨b49, o49, cs49, f49, hp49, hr49, hc49, hm49⟩ := hq_
    have hk50 := hc49
    obtain ⟨he50, rfl, hok50⟩ := hk50
    have he50 : _ = [I (xs[k]'hi51fab).prio, I (xs[k]'hi51fab).seq, I (xs[k]'hi51fab).run, I (xs[k]'hi51fab).task] := he50
    subst he50
    refine dI [Pl.is (I (k : Int)), Pl.is (v) (Sl.yl h), Pl.is (I (xs.length : Int)), Pl.bool true, Pl.bool true, Pl.is (v) (Sl.yl h), Pl.is (I (k : Int)), Pl.is (.pointer (some ⟨b49, o49, none⟩)), Pl.is (.agg #[I (xs[k]'hi51fab).prio, I (xs[k]'hi51fab).seq, I (xs[k]'hi51fab).run, I (xs[k]'hi51fab).task]), Pl.is (.agg #[I e.prio, I e.seq, I e.run, I e.task]), Pl.bool (eF (xs[k]'hi51fab) e), Pl.bool (eF (xs[k]'hi51fab) e)] mix (by rfl) st10 ⟨(fun f W hst hbl hd hf => aB (v := I (k : Int)) ((hf 5 rfl).trans hs11_5) brq), (fun f W hst hbl hd hf => aB (v := v) ((hf 0 rfl).trans hs11_0) brq), (fun f W hst hbl hd hf => aV sl_EntryS (hd 1 8 rfl rfl) h brq), (fun f W hst hbl hd hf => aY (hd 0 7 rfl rfl) (hd 2 9 rfl rfl) ⟨Below.refl _ _, congrArg Value.bool h12⟩), (fun f W hst hbl hd hf => aB (v := .bool true) (hd 3 10 rfl rfl) brq), (fun f W hst hbl hd hf => aB (v := v) ((hf 0 rfl).trans hs11_0) brq), (fun f W hst hbl hd hf => aB (v := I (k : Int)) ((hf 5 rfl).trans hs11_5) brq), (fun f W hst hbl hd hf => aG sl_EntryS (hd 5 12 rfl rfl) hp49 (hd 6 13 rfl rfl) rfl brq), (fun f W hst hbl hd hf => cS (cs := [I (xs[k]'hi51fab).prio, I (xs[k]'hi51fab).seq, I (xs[k]'hi51fab).run, I (xs[k]'hi51fab).task]) eA rfl (hd 7 14 rfl rfl) hr49 hst.below (i := 0) rfl rfl rfl brq), (fun f W hst hbl hd hf => aU (cs := [I e.prio, I e.seq, I e.run, I e.task]) eA rfl ((hf 3 rfl).trans hs11_3) (hst.get 0 rfl) rfl rfl brq), (fun f W hst hbl hd hf => aZ Tryz.func211 rfl (hd 8 15 rfl rfl) (hd 9 16 rfl rfl) ((wQ W hc49 hde).mono (by rintro e W2 ⟨rfl, hk⟩; exact ⟨_, rfl, hk.below, rfl⟩))), (fun f W hst hbl hd hf => aN (v := .bool (eF (xs[k]'hi51fab) e)) (hd 4 11 rfl rfl) (hd 10 17 rfl rfl) brq), trivial⟩ ?_
    intro f51 W52 st53 hb54 hv55 hf56
    refine aR (hv55 11 18 (by decide) rfl) (fun h57 => ?_) (fun h57 => ?_)
    · refine wp_skip (wp_block (aA (sg (aB (v := I (k : Int)) ((hf56 5 rfl).trans hs11_5) (sg (aP rfl rfl (by (simp only [I64] at *; omega)) (sg (aD (v := I ((k : Int) + 1)) rfl (aE ?_)))))))))
      exact ⟨_, xs.length - (k + 1), (by omega), rfl, k + 1, (by omega), (lQ (by omega) hany (by rw [h57]; rfl)), rfl, ((hf56 0 rfl).trans hs11_0), ((hf56 3 rfl).trans hs11_3), rfl, st53⟩
    · refine wp_exit (wp_seq (aA (sg (bR (cs := []) (e := 131) gK (eQ dX _) st53 ?_)))); intro b58 W59 hb60 st61
      have st61 := st61.row_empty (α := Entry)
      refine sg (aB (v := v) ((hf56 0 rfl).trans hs11_0) (sg (aB (v := I (k : Int)) ((hf56 5 rfl).trans hs11_5) (sg (mD (h := k) sl_EntryS rfl h rfl rfl (by omega) ?_))))); intro v63 g64 h65 hm66
      refine sg (eJ gQ dX rfl rfl h65 st61.below st61 (by simp only [List.length_append, List.length_take, List.length_drop, List.length_cons, List.length_nil]; unfold maxLen; omega) (by simp only [List.length_append, List.length_take, List.length_drop, List.length_cons, List.length_nil]; omega) ?_); intro v67 W68 st69
      refine sg (aD (v := v67) rfl (aE (wp_seq (aA (sg (aB (v := v67) rfl (sg (aU (cs := [I e.prio, I e.seq, I e.run, I e.task]) eA rfl ((hf56 3 rfl).trans hs11_3) (st69.get 1 rfl) rfl rfl (sg (bR (cs := [I e.prio, I e.seq, I e.run, I e.task]) (e := 131) (eG (v := .agg #[I e.prio, I e.seq, I e.run, I e.task]) rfl gK) (cG dX _ _ rfl rfl (by decide)) st69 ?_)))))))))); intro b70 W71 hb72 st73
      have st75 := st73.f1
      refine sg (eC (ys := [(⟨e.prio, e.seq, e.run, e.task⟩ : Entry)]) dX rfl rfl rfl st75 (Elems.one1 ⟨rfl, rfl, hok⟩) (by simp only [List.length_append, List.length_take, List.length_drop, List.length_cons, List.length_nil]; unfold maxLen; omega) (by simp only [List.length_append, List.length_take, List.length_drop, List.length_cons, List.length_nil]; omega) ?_); intro v76 W77 st78
      refine sg (aD (v := v76) rfl (aE (wp_seq (aA (sg (aB (v := v76) rfl (sg (aB (v := v) ((hf56 0 rfl).trans hs11_0) (sg (aB (v := I (k : Int)) ((hf56 5 rfl).trans hs11_5) (sg (mC (l := k) sl_EntryS rfl h rfl rfl (by omega) ?_)))))))))))); intro v79 g80 h81 hm82
      refine sg (eJ gQ dX rfl rfl h81 st78.below st78 (by simp only [List.length_append, List.length_take, List.length_drop, List.length_cons, List.length_nil]; unfold maxLen; omega) (by simp only [List.length_append, List.length_take, List.length_drop, List.length_cons, List.length_nil]; omega) ?_); intro v83 W84 st85
      refine sg (aD (v := v83) rfl (aE (wp_ret ?_))); repeat first|refine aH ?_|refine aI ?_
      refine aW Tryz.results187 rfl ?_
      have hq_ := st85.shut
      obtain ⟨fp87, st86⟩ := hq_
      have hpk := uI (e := e) (k := k) (by omega) hany (.inr ⟨by omega, h57⟩)
      have hfe : lU xs e = ([] ++ xs.take k ++ [e]) ++ xs.drop k := by unfold lU; rw [hpk]; simp
      rw [hfe]
      exact ⟨_, _, rfl, st86.only 0 rfl⟩
end Go.Proofs.YtchnllpegfbleaaGreat
namespace Go.Proofs.YtchnllpegfbleaaGreat
set_option linter.unusedSimpArgs false
set_option linter.unusedVariables false
open Go.RowKit Go.Lib
def fT (a b : Int) : Int := ((a.toNat ^^^ b.toNat : Nat) : Int)
theorem lW {a b : Int} (ha : 0 ≤ a ∧ a < 4294967296) (hb : 0 ≤ b ∧ b < 4294967296) : 0 ≤ fT a b ∧ fT a b < 4294967296 := by
  have h := Nat.xor_lt_two_pow (n := 32) (x := a.toNat) (y := b.toNat) (by omega) (by omega)
  unfold fT
  generalize a.toNat ^^^ b.toNat = m at h ⊢
  omega
section
variable {P : Program} {n : Nat} {f : Nat → Value} {W : World} {Q : Exit → Act → World → Prop} {K : Value → World → Prop} {d : Option Tmp} {ty : TypeId} {pos : String} {af : Array Go.Edge} {g : Option (Nat × Bool)} {x y : Operand} {t t' : TypeId}
theorem stp_xor {a b : Nat} (hx : ev n f x = I (a : Int)) (hy : ev n f y = I (b : Int)) (ha : a < 2 ^ 32) (hb : b < 2 ^ 32) (k : K (I ((a ^^^ b : Nat) : Int)) W) : Stp P n ⟨d, .binOp .xor t x y t', ty, pos, af, g⟩ f W Q K :=
  Stp.run (v := I ((a ^^^ b : Nat) : Int)) (by
    have h := Nat.xor_lt_two_pow ha hb
    have hw : IntKind.i64.wrap ((BitVec.ofInt 64 (a : Int) ^^^ BitVec.ofInt 64 (b : Int)).toNat : Int) = ((a ^^^ b : Nat) : Int) := by
      rw [BitVec.toNat_xor, iO a ha, iO b hb]
      exact jV ⟨by omega, by omega⟩
    simp [execOp, hx, hy, go_sem]
    exact hw) k
theorem kL {a b : Int} (hx : ev n f x = I a) (hy : ev n f y = I b) (ha : 0 ≤ a ∧ a < 4294967296) (hb : 0 ≤ b ∧ b < 4294967296) (k : K (I (fT a b)) W) : Stp P n ⟨d, .binOp .xor t x y t', ty, pos, af, g⟩ f W Q K :=
  stp_xor (oT hx ha.1) (oT hy hb.1) (by omega) (by omega) k
theorem tZ {s : ByteArray} {i : Nat} (hu : P.underlying t = some .string) (hx : ev n f x = .string s) (hy : ev n f y = I (i : Int)) (h : i < s.data.toList.length) (k : K (.int .u8 ((s.data.toList[i]'h).toNat : Int)) W) : Stp P n ⟨d, .index t x y, ty, pos, af, g⟩ f W Q K :=
  Stp.run (v := .int .u8 ((s.data.toList[i]'h).toNat : Int)) (by
    have hs : 0 ≤ (i : Int) ∧ (i : Int) < s.size := ⟨by omega, by have : s.size = s.data.toList.length := rfl; omega⟩
    have := run_index_string (P := P) (w := W) t s .i64 i hu
    rw [dif_pos hs] at this
    simp only [execOp, hx, hy, Sem.run_bind, this, Result.andThen_ok]; rfl) k
theorem vP {a : Int} (hs : P.underlying t = some (.int .u8)) (hd : P.underlying t' = some (.int .i64)) (hx : ev n f x = .int .u8 a) (h : 0 ≤ a ∧ a < 256) (k : K (I a) W) : Stp P n ⟨d, .convert t t' x, ty, pos, af, g⟩ f W Q K :=
  Stp.run (v := I a) (by
    have hk : P.intKind t' = .i64 := by simp [Program.intKind, hd]
    have hw : IntKind.i64.wrap a = a := jV ⟨by omega, by omega⟩
    have hd' : P.underlying t' = some (.int (P.intKind t')) := by rw [hk]; exact hd
    have := run_convert_int (P := P) W t t' .u8 a (by rw [hs]; rfl) hd'
    rw [hk, hw] at this
    simp only [execOp, hx, Sem.run_bind, this, Result.andThen_ok]; rfl) k
end
theorem Elems.byte1 {W : World} {e : Int} (h : 0 ≤ e ∧ e < 256) : Elems W [.int .u8 e] [UInt8.ofNat e.toNat] [] := by
  have : ((UInt8.ofNat e.toNat).toNat : Int) = e := by simp [UInt8.toNat_ofNat']; omega
  exact Elems.one1 ⟨by show [Value.int .u8 e] = [.int .u8 ((UInt8.ofNat e.toNat).toNat : Int)]; rw [this], rfl, trivial⟩
theorem rU (b : UInt8) : 0 ≤ (b.toNat : Int) ∧ (b.toNat : Int) < 256 := by have := b.toNat_lt; omega
def gI (n : Nat) : List UInt8 := if 128 ≤ n then UInt8.ofNat (128 + n % 128) :: gI (n / 128) else [UInt8.ofNat n]
termination_by n
decreasing_by omega
theorem lX {n : Nat} (h : 128 ≤ n) : gI n = UInt8.ofNat (128 + n % 128) :: gI (n / 128) := by rw [gI, if_pos h]
theorem jP {n : Nat} (h : ¬ 128 ≤ n) : gI n = [UInt8.ofNat n] := by rw [gI, if_neg h]
theorem varBytes_len7 : ∀ (d n : Nat), n < 128 ^ (d + 1) → (gI n).length ≤ d + 1 := by
  intro d
  induction d with
  | zero => intro n h; rw [jP (by simpa using h)]; simp
  | succ d ih =>
    intro n h
    by_cases h1 : 128 ≤ n
    · rw [lX h1, List.length_cons]
      have := ih (n / 128) (by rw [Nat.div_lt_iff_lt_mul (by omega)]; rw [Nat.pow_succ] at h; exact h)
      omega
    · rw [jP h1]; simp
def fA (n : Int) : ByteArray := if inB n 0 1000000000 then ⟨(gI n.toNat).toArray⟩ else ⟨#[]⟩
def jL (s : Int) : Int := if s % 2 = 1 then fT (s / 2) 3988292384 else s / 2
def hU : Nat → Int → Int
  | 0, s => s
  | k + 1, s => jL (hU k s)
theorem crcBit_rng {s : Int} (h : 0 ≤ s ∧ s < 4294967296) : 0 ≤ jL s ∧ jL s < 4294967296 := by
  unfold jL
  split
  · exact lW (by omega) (by omega)
  · omega
theorem oU {s : Int} (h : 0 ≤ s ∧ s < 4294967296) : ∀ k, 0 ≤ hU k s ∧ hU k s < 4294967296
  | 0 => h
  | k + 1 => crcBit_rng (oU h k)
def gA (l : List UInt8) : Int := l.foldl (fun s b => hU 8 (fT s (b.toNat : Int))) 4294967295
theorem qK (l : List UInt8) : 0 ≤ gA l ∧ gA l < 4294967296 := by
  unfold gA
  have : ∀ (l : List UInt8) (s : Int), 0 ≤ s ∧ s < 4294967296 → 0 ≤ l.foldl (fun s b => hU 8 (fT s (b.toNat : Int))) s ∧ l.foldl (fun s b => hU 8 (fT s (b.toNat : Int))) s < 4294967296 := by
    intro l
    induction l with
    | nil => intro s h; exact h
    | cons b l ih => intro s h; exact ih _ (oU (lW h (by have := rU b; omega)) 8)
  exact this l _ (by omega)
theorem vN {l : List UInt8} {i : Nat} (h : i < l.length) : gA (l.take (i + 1)) = hU 8 (fT (gA (l.take i)) (l[i].toNat : Int)) := by
  unfold gA
  rw [List.take_succ_eq_append_getElem h, List.foldl_append]; rfl
def oD (t : ByteArray) : Int := fT (gA t.data.toList) 4294967295
theorem sC (t : ByteArray) : 0 ≤ oD t ∧ oD t < 4294967296 := lW (qK _) (by omega)
def bG (id : Int) : Int := if fA id = ⟨#[]⟩ then 0 else oD (fA id) % 4
theorem jD (id : Int) : 0 ≤ bG id ∧ bG id < 4 := by unfold bG; split <;> omega
theorem nZ (id : Int) : (fA id).size ≤ 5 := by
  unfold fA
  split
  · rename_i h
    rw [inB_iff'] at h
    show (gI id.toNat).toArray.size ≤ 5
    rw [List.size_toArray]
    exact varBytes_len7 4 _ (by omega)
  · exact Nat.zero_le _
end Go.Proofs.YtchnllpegfbleaaGreat
namespace Go.Proofs.YtchnllpegfbleaaGreat
set_option linter.unusedSimpArgs false
set_option linter.unusedVariables false
set_option maxRecDepth 100000
open Go.RowKit

set_option maxHeartbeats 2000000 in
theorem VarTextI (w : World) (id : Int) :
    Calls Tryz.prog 236 #[I id] w fun e w' => e = .returned (.string (fA id)) ∧ St w w' [] := by
  refine dU Tryz.func236 rfl Tryz.ntmps236 (by decide) (wp_seq (aA (sg (aD (v := .string (⟨#[]⟩ : ByteArray)) rfl (aE (wp_seq (wp_seq (aA (sg (aB (v := I id) rfl (sg (bS Tryz.func47 rfl rfl rfl rfl ((eL w id 0 1000000000).mono ?_))))))))))))); rintro _ W1 ⟨rfl, hk2⟩; refine ⟨_, rfl, ?_⟩
  have st3 := St.call (St.start w) hk2
  refine sg (bO rfl (aE (aR rfl (fun h5 => ?_) (fun h5 => ?_))))
  · have h5p := dN (aS h5)
    refine wp_seq (aA (sg (aD (v := .string (⟨#[]⟩ : ByteArray)) rfl (aE (wp_ret ?_))))); repeat first|refine aH ?_|refine aI ?_
    refine aW Tryz.results236 rfl ?_
    exact ⟨(congrArg (fun z => Ending.returned (.string z)) (by unfold fA; rw [if_neg (by rw [(aS h5)]; decide)])), st3.bare⟩
  · have h5p := inB_iff'.1 (aX h5)
    refine wp_skip (wp_seq (aA (sg (aD (v := .slice none 0 0) rfl (aE (wp_seq (wp_block ?_)))))))
    have st7 := st3.row_nil (α := UInt8) 5
    refine bH (fun (m : Nat) (f : Nat → Value) (W : World) => ∃ (n : Int) (xs : List UInt8) (v6 : Value), 0 ≤ n ∧ n ≤ 1000000000 ∧ xs ++ gI n.toNat = gI id.toNat ∧ (xs.length : Int) + n ≤ id ∧ m = n.toNat ∧ f 0 = I n ∧ f 3 = v6 ∧ St w W ([Res.row (α := UInt8) 5 v6 xs []])) (id.toNat) ?_ ?_
    · exact ⟨id, [], (.slice none 0 0), (by omega), (by omega), rfl, (by simp), rfl, rfl, rfl, st7⟩
    intro m9 f10 W11 hJ12
    obtain ⟨n, xs, v6, hn0, hn1, hvb, hxl, rfl, hs14_0, hs14_3, st13⟩ := hJ12
    refine wp_seq (wp_seq (aA (sg (aB (v := I n) hs14_0 (sg (gT rfl rfl (aE (aR rfl (fun h15 => ?_) (fun h15 => ?_)))))))))
    · have h15p := of_decide_eq_true h15
      refine wp_skip (wp_block (wp_seq (aA (sg (aB (v := v6) hs14_3 (sg (aB (v := I n) hs14_0 (sg (mT rfl rfl (by omega) (by omega) (sg (aP rfl rfl (by (simp only [I64] at *; omega)) (sg (oF (by kernel_rfl) Tryz.underlying5 rfl (by omega) (sg (bR (cs := [.int .u8 ((n % 128) + 128)]) (e := 5) (eG (v := .int .u8 ((n % 128) + 128)) rfl gK) (cG iD _ _ rfl rfl (by decide)) st13 ?_))))))))))))))); intro b16 W17 hb18 st19
      have st21 := st19.f1
      refine sg (eC (ys := [UInt8.ofNat ((n % 128) + 128).toNat]) iD rfl rfl rfl st21 (Elems.byte1 (by omega)) (by unfold maxLen; omega) (by omega) ?_); intro v22 W23 st24
      refine sg (aD (v := v22) rfl (aE (aA (sg (aB (v := I n) hs14_0 (sg (qG rfl rfl (by omega) (by omega) (sg (aD (v := I (n / 128)) rfl (aE ?_))))))))))
      exact ⟨_, (n / 128).toNat, (by omega), rfl, n / 128, xs ++ [UInt8.ofNat (n % 128 + 128).toNat], v22, (by omega), (by omega), (by rw [← hvb, lX (n := n.toNat) (by omega), List.append_assoc]; have e1 : (n % 128 + 128).toNat = 128 + n.toNat % 128 := (by omega); have e2 : (n / 128).toNat = n.toNat / 128 := (by omega); rw [e1, e2]; rfl), (by simp only [List.length_append, List.length_cons, List.length_nil]; omega), rfl, rfl, rfl, st24⟩
    · have h15p := of_decide_eq_false h15
      refine wp_exit (wp_seq (aA (sg (aB (v := v6) hs14_3 (sg (aB (v := I n) hs14_0 (sg (oF (by kernel_rfl) Tryz.underlying5 rfl (by omega) (sg (bR (cs := [.int .u8 n]) (e := 5) (eG (v := .int .u8 n) rfl gK) (cG iD _ _ rfl rfl (by decide)) st13 ?_)))))))))); intro b25 W26 hb27 st28
      have st30 := st28.f1
      refine sg (eC (ys := [UInt8.ofNat (n).toNat]) iD rfl rfl rfl st30 (Elems.byte1 (by omega)) (by unfold maxLen; omega) (by omega) ?_); intro v31 W32 st33
      refine sg (sD Tryz.underlying234 Tryz.underlying5 Tryz.underlying9 rfl (dL (st33.get 0 rfl)) (Below.refl _ _) (sg (aD (v := .string (⟨(xs ++ [UInt8.ofNat (n).toNat]).toArray⟩ : ByteArray)) rfl (aE (wp_ret ?_))))); repeat first|refine aH ?_|refine aI ?_
      refine aW Tryz.results236 rfl ?_
      exact ⟨(congrArg (fun z => Ending.returned (.string z)) (by unfold fA; rw [if_pos (aX h5), ← hvb, jP (by omega)])), st33.bare⟩
set_option maxHeartbeats 2000000 in
theorem SumOfI (w : World) (t : ByteArray) (ht : t.size ≤ 1048576) :
    Calls Tryz.prog 237 #[.string t] w fun e w' => e = .returned (I (oD t)) ∧ St w w' [] := by
  have hsz : t.size = t.data.toList.length := rfl
  refine dU Tryz.func237 rfl Tryz.ntmps237 (by decide) (wp_seq (aA (sg (aD (v := I 0) rfl (aE (wp_seq (aA (sg (aD (v := I 4294967295) rfl (aE (wp_seq (wp_seq (aA ?_)))))))))))))
  refine sg (aD (v := I 0) rfl (aE (wp_block (bH (fun (m : Nat) (f : Nat → Value) (W : World) => ∃ (i : Nat), i ≤ t.data.toList.length ∧ m = t.data.toList.length - i ∧ f 0 = .string t ∧ f 3 = I (gA (t.data.toList.take i)) ∧ f 4 = I (i : Int) ∧ St w W ([])) (t.data.toList.length - 0) ?_ ?_))))
  · exact ⟨0, Nat.zero_le _, rfl, rfl, rfl, rfl, (St.start w)⟩
  intro m1 f2 W3 hJ4
  obtain ⟨i, hcd6_0, rfl, hs6_0, hs6_3, hs6_4, st5⟩ := hJ4
  have hsr := qK (t.data.toList.take i)
  have hsz : t.size = t.data.toList.length := rfl
  refine wp_seq (wp_seq (aA (sg (aB (v := I (i : Int)) hs6_4 (sg (aB (v := .string t) hs6_0 (sg (tY Tryz.underlying9 rfl (sg (aY rfl rfl (aE (aR rfl (fun h7 => ?_) (fun h7 => ?_)))))))))))))
  · have h7p := of_decide_eq_true h7
    refine wp_skip (wp_seq (wp_block (wp_seq (aA (sg (aB (v := I (gA (t.data.toList.take i))) hs6_3 (sg (aB (v := .string t) hs6_0 (sg (aB (v := I (i : Int)) hs6_4 ?_))))))))))
    have hi75860 : i < t.data.toList.length := (by omega)
    refine sg (tZ (i := i) Tryz.underlying9 rfl rfl hi75860 ?_)
    have hbr := rU (t.data.toList[i])
    refine sg (vP Tryz.underlying5 Tryz.underlying3 rfl (by omega) (sg (kL rfl rfl (by omega) (by omega) (sg (aD (v := I (fT (gA (t.data.toList.take i)) ((t.data.toList[i]'hi75860).toNat : Int))) rfl (aE (wp_seq (aA (sg (aD (v := I 0) rfl (aE (wp_block (bH (fun (m : Nat) (f : Nat → Value) (W : World) => ∃ (j : Nat), j ≤ 8 ∧ m = 8 - j ∧ f 0 = .string t ∧ f 3 = I (hU j (fT (gA (t.data.toList.take i)) ((t.data.toList[i]'hi75860).toNat : Int))) ∧ f 4 = I (i : Int) ∧ f 5 = I (j : Int) ∧ St w W ([])) (8 - 0) ?_ ?_)))))))))))))
    · exact ⟨0, Nat.zero_le _, rfl, hs6_0, rfl, hs6_4, rfl, st5⟩
    intro m8 f9 W10 hJ11
    obtain ⟨j, hcd13_0, rfl, hs13_0, hs13_3, hs13_4, hs13_5, st12⟩ := hJ11
    have hcr := oU (lW hsr (by omega : 0 ≤ ((t.data.toList[i]).toNat : Int) ∧ ((t.data.toList[i]).toNat : Int) < 4294967296)) j
    refine wp_seq (wp_seq (aA (sg (aB (v := I (j : Int)) hs13_5 (sg (aY rfl rfl (aE (aR rfl (fun h14 => ?_) (fun h14 => ?_)))))))))
    · have h14p := of_decide_eq_true h14
      refine wp_skip (wp_seq (wp_block (wp_seq (aA (sg (aB (v := I (hU j (fT (gA (t.data.toList.take i)) ((t.data.toList[i]'hi75860).toNat : Int)))) hs13_3 (sg (mT rfl rfl (by omega) (by omega) (sg (bA rfl rfl (sg (aD (v := .bool (decide (((hU j (fT (gA (t.data.toList.take i)) ((t.data.toList[i]'hi75860).toNat : Int))) % 2) = 1))) rfl (aE (wp_seq (aA ?_)))))))))))))))
      refine sg (aB (v := I (hU j (fT (gA (t.data.toList.take i)) ((t.data.toList[i]'hi75860).toNat : Int)))) hs13_3 (sg (qG rfl rfl (by omega) (by omega) (sg (aD (v := I ((hU j (fT (gA (t.data.toList.take i)) ((t.data.toList[i]'hi75860).toNat : Int))) / 2)) rfl (aE (wp_seq (aA (sg (aB (v := .bool (decide (((hU j (fT (gA (t.data.toList.take i)) ((t.data.toList[i]'hi75860).toNat : Int))) % 2) = 1))) rfl (aE (aR rfl (fun h15 => ?_) (fun h15 => ?_)))))))))))))
      · have h15p := of_decide_eq_true h15
        refine aA (sg (aB (v := I ((hU j (fT (gA (t.data.toList.take i)) ((t.data.toList[i]'hi75860).toNat : Int))) / 2)) rfl (sg (kL rfl rfl (by omega) (by omega) (sg (aD (v := I (fT ((hU j (fT (gA (t.data.toList.take i)) ((t.data.toList[i]'hi75860).toNat : Int))) / 2) 3988292384)) rfl (aE (aA (sg (aB (v := I (j : Int)) hs13_5 (sg (aP rfl rfl (by (simp only [I64] at *; omega)) (sg (aD (v := I ((j : Int) + 1)) rfl (aE ?_)))))))))))))))
        exact ⟨_, 8 - (j + 1), (by omega), rfl, j + 1, (by omega), rfl, hs13_0, (Eq.trans (show _ = I (fT ((hU j (fT (gA (t.data.toList.take i)) ((t.data.toList[i]'hi75860).toNat : Int))) / 2) 3988292384) from rfl) (show I (fT ((hU j (fT (gA (t.data.toList.take i)) ((t.data.toList[i]'hi75860).toNat : Int))) / 2) 3988292384) = _ from congrArg I (by show _ = jL _; unfold jL; rw [if_pos (by omega)]))), hs13_4, rfl, st12⟩
      · have h15p := of_decide_eq_false h15
        refine wp_skip (aA (sg (aB (v := I (j : Int)) hs13_5 (sg (aP rfl rfl (by (simp only [I64] at *; omega)) (sg (aD (v := I ((j : Int) + 1)) rfl (aE ?_))))))))
        exact ⟨_, 8 - (j + 1), (by omega), rfl, j + 1, (by omega), rfl, hs13_0, (Eq.trans (show _ = I ((hU j (fT (gA (t.data.toList.take i)) ((t.data.toList[i]'hi75860).toNat : Int))) / 2) from rfl) (show I ((hU j (fT (gA (t.data.toList.take i)) ((t.data.toList[i]'hi75860).toNat : Int))) / 2) = _ from congrArg I (by show _ = jL _; unfold jL; rw [if_neg (by omega)]))), hs13_4, rfl, st12⟩
    · have h14p := of_decide_eq_false h14
      refine wp_exit (aA (sg (aB (v := I (i : Int)) hs13_4 (sg (aP rfl rfl (by (simp only [I64] at *; omega)) (sg (aD (v := I ((i : Int) + 1)) rfl (aE ?_))))))))
      exact ⟨_, t.data.toList.length - (i + 1), (by omega), rfl, i + 1, (by omega), rfl, hs13_0, (Eq.trans (show _ = I (hU j (fT (gA (t.data.toList.take i)) ((t.data.toList[i]'hi75860).toNat : Int))) from hs13_3) (show I (hU j (fT (gA (t.data.toList.take i)) ((t.data.toList[i]'hi75860).toNat : Int))) = _ from (congrArg I (by rw [vN (by omega)]; have hj8 : j = 8 := (by omega); rw [hj8])))), rfl, st12⟩
  · have h7p := of_decide_eq_false h7
    refine wp_exit (wp_seq (aA (sg (aB (v := I (gA (t.data.toList.take i))) hs6_3 (sg (kL rfl rfl (by omega) (by omega) (sg (aD (v := I (fT (gA (t.data.toList.take i)) 4294967295)) rfl (aE (wp_ret ?_)))))))))); repeat first|refine aH ?_|refine aI ?_
    refine aW Tryz.results237 rfl ?_
    obtain rfl : i = t.data.toList.length := by omega
    exact ⟨(congrArg (fun z => Ending.returned (I z)) (by unfold oD; rw [List.take_length])), st5.bare⟩
set_option maxHeartbeats 2000000 in
theorem ShelfOfI (w : World) (id : Int) :
    Calls Tryz.prog 223 #[I id] w fun e w' => e = .returned (I (bG id)) ∧ St w w' [] := by
  refine dU Tryz.func223 rfl Tryz.ntmps223 (by decide) (wp_seq (aA (sg (aD (v := I 0) rfl (aE (wp_seq (aA (sg (aB (v := I id) rfl (sg (bI Tryz.func236 rfl rfl ((VarTextI w id).mono ?_)))))))))))); rintro _ W1 ⟨rfl, hk2⟩; refine ⟨_, rfl, ?_⟩
  have st3 := St.call (St.start w) hk2
  refine sg (aD (v := .string (fA id)) rfl (aE (wp_seq (wp_seq (aA (sg (aB (v := .string (fA id)) rfl (sg (uA rfl rfl (aE (aR rfl (fun h5 => ?_) (fun h5 => ?_))))))))))))
  · have h5p := of_decide_eq_true h5
    refine wp_seq (aA (sg (aD (v := I 0) rfl (aE (wp_ret ?_))))); repeat first|refine aH ?_|refine aI ?_
    refine aW Tryz.results223 rfl ?_
    exact ⟨(congrArg (fun z => Ending.returned (I z)) (by unfold bG; rw [if_pos h5p])), st3.bare⟩
  · have h5p := of_decide_eq_false h5
    refine wp_skip (wp_seq (aA (sg (aB (v := .string (fA id)) rfl (sg (bI Tryz.func237 rfl rfl ((SumOfI W1 (fA id) (by have := nZ id; omega)).mono ?_))))))); rintro _ W6 ⟨rfl, hk7⟩; refine ⟨_, rfl, ?_⟩
    have st8 := St.call st3 hk7
    have hsr := sC (fA id)
    refine sg (mT rfl rfl (by omega) (by omega) (sg (aD (v := I ((oD (fA id)) % 4)) rfl (aE (wp_ret ?_))))); repeat first|refine aH ?_|refine aI ?_
    refine aW Tryz.results223 rfl ?_
    exact ⟨(congrArg (fun z => Ending.returned (I z)) (by unfold bG; rw [if_neg h5p])), st8.bare⟩
set_option maxHeartbeats 2000000 in
theorem VarTextS (w : World) (id : Int) :
    Calls Tryz.prog 233 #[I id] w fun e w' => e = .returned (.string (fA id)) ∧ St w w' [] := by
  refine dU Tryz.func233 rfl Tryz.ntmps233 (by decide) (wp_seq (aA (sg (aD (v := .string (⟨#[]⟩ : ByteArray)) rfl (aE (wp_seq (wp_seq (aA (sg (aB (v := I id) rfl (sg (bS Tryz.func43 rfl rfl rfl rfl ((fK w id 0 1000000000).mono ?_))))))))))))); rintro _ W1 ⟨rfl, hk2⟩; refine ⟨_, rfl, ?_⟩
  have st3 := St.call (St.start w) hk2
  refine sg (bO rfl (aE (aR rfl (fun h5 => ?_) (fun h5 => ?_))))
  · have h5p := dN (aS h5)
    refine wp_seq (aA (sg (aD (v := .string (⟨#[]⟩ : ByteArray)) rfl (aE (wp_ret ?_))))); repeat first|refine aH ?_|refine aI ?_
    refine aW Tryz.results233 rfl ?_
    exact ⟨(congrArg (fun z => Ending.returned (.string z)) (by unfold fA; rw [if_neg (by rw [(aS h5)]; decide)])), st3.bare⟩
  · have h5p := inB_iff'.1 (aX h5)
    refine wp_skip (wp_seq (aA (sg (bR (cs := []) (e := 5) gK (eQ iD _) st3 ?_)))); intro b6 W7 hb8 st9
    have st9 := st9.row_empty (α := UInt8)
    refine sg (aD (v := (.slice (some ⟨b6, 0, none⟩) 0 0)) rfl (aE (wp_seq (wp_block (bH (fun (m : Nat) (f : Nat → Value) (W : World) => ∃ (n : Int) (xs : List UInt8) (v11 : Value), 0 ≤ n ∧ n ≤ 1000000000 ∧ xs ++ gI n.toNat = gI id.toNat ∧ (xs.length : Int) + n ≤ id ∧ m = n.toNat ∧ f 0 = I n ∧ f 3 = v11 ∧ St w W ([Res.row (α := UInt8) 5 v11 xs []])) (id.toNat) ?_ ?_)))))
    · exact ⟨id, [], (.slice (some ⟨b6, 0, none⟩) 0 0), (by omega), (by omega), rfl, (by simp), rfl, rfl, rfl, st9⟩
    intro m12 f13 W14 hJ15
    obtain ⟨n, xs, v11, hn0, hn1, hvb, hxl, rfl, hs17_0, hs17_3, st16⟩ := hJ15
    refine wp_seq (wp_seq (aA (sg (aB (v := I n) hs17_0 (sg (fV rfl rfl (aE (aR rfl (fun h18 => ?_) (fun h18 => ?_)))))))))
    · have h18p := of_decide_eq_true h18
      refine wp_skip (wp_block (wp_seq (aA (sg (aB (v := v11) hs17_3 (sg (aB (v := I n) hs17_0 (sg (mT rfl rfl (by omega) (by omega) (sg (aP rfl rfl (by (simp only [I64] at *; omega)) (sg (oF (by kernel_rfl) Tryz.underlying5 rfl (by omega) (sg (bR (cs := [.int .u8 (128 + (n % 128))]) (e := 5) (eG (v := .int .u8 (128 + (n % 128))) rfl gK) (cG iD _ _ rfl rfl (by decide)) st16 ?_))))))))))))))); intro b19 W20 hb21 st22
      have st24 := st22.f1
      refine sg (eC (ys := [UInt8.ofNat (128 + (n % 128)).toNat]) iD rfl rfl rfl st24 (Elems.byte1 (by omega)) (by unfold maxLen; omega) (by omega) ?_); intro v25 W26 st27
      refine sg (aD (v := v25) rfl (aE (aA (sg (aB (v := I n) hs17_0 (sg (qG rfl rfl (by omega) (by omega) (sg (aD (v := I (n / 128)) rfl (aE ?_))))))))))
      exact ⟨_, (n / 128).toNat, (by omega), rfl, n / 128, xs ++ [UInt8.ofNat (128 + n % 128).toNat], v25, (by omega), (by omega), (by rw [← hvb, lX (n := n.toNat) (by omega), List.append_assoc]; have e1 : (128 + n % 128).toNat = 128 + n.toNat % 128 := (by omega); have e2 : (n / 128).toNat = n.toNat / 128 := (by omega); rw [e1, e2]; rfl), (by simp only [List.length_append, List.length_cons, List.length_nil]; omega), rfl, rfl, rfl, st27⟩
    · have h18p := of_decide_eq_false h18
      refine wp_exit (wp_seq (aA (sg (aB (v := v11) hs17_3 (sg (aB (v := I n) hs17_0 (sg (oF (by kernel_rfl) Tryz.underlying5 rfl (by omega) (sg (bR (cs := [.int .u8 n]) (e := 5) (eG (v := .int .u8 n) rfl gK) (cG iD _ _ rfl rfl (by decide)) st16 ?_)))))))))); intro b28 W29 hb30 st31
      have st33 := st31.f1
      refine sg (eC (ys := [UInt8.ofNat (n).toNat]) iD rfl rfl rfl st33 (Elems.byte1 (by omega)) (by unfold maxLen; omega) (by omega) ?_); intro v34 W35 st36
      refine sg (sD Tryz.underlying234 Tryz.underlying5 Tryz.underlying9 rfl (dL (st36.get 0 rfl)) (Below.refl _ _) (sg (aD (v := .string (⟨(xs ++ [UInt8.ofNat (n).toNat]).toArray⟩ : ByteArray)) rfl (aE (wp_ret ?_))))); repeat first|refine aH ?_|refine aI ?_
      refine aW Tryz.results233 rfl ?_
      exact ⟨(congrArg (fun z => Ending.returned (.string z)) (by unfold fA; rw [if_pos (aX h5), ← hvb, jP (by omega)])), st36.bare⟩
set_option maxHeartbeats 2000000 in
theorem SumOfS (w : World) (t : ByteArray) (ht : t.size ≤ 1048576) :
    Calls Tryz.prog 234 #[.string t] w fun e w' => e = .returned (I (oD t)) ∧ St w w' [] := by
  have hsz : t.size = t.data.toList.length := rfl
  refine dU Tryz.func234 rfl Tryz.ntmps234 (by decide) (wp_seq (aA (sg (aD (v := I 0) rfl (aE (wp_seq (aA (sg (aD (v := I 4294967295) rfl (aE (wp_seq (wp_seq (aA ?_)))))))))))))
  refine sg (aD (v := I 0) rfl (aE (wp_block (bH (fun (m : Nat) (f : Nat → Value) (W : World) => ∃ (i : Nat), i ≤ t.data.toList.length ∧ m = t.data.toList.length - i ∧ f 0 = .string t ∧ f 3 = I (gA (t.data.toList.take i)) ∧ f 4 = I (i : Int) ∧ St w W ([])) (t.data.toList.length - 0) ?_ ?_))))
  · exact ⟨0, Nat.zero_le _, rfl, rfl, rfl, rfl, (St.start w)⟩
  intro m1 f2 W3 hJ4
  obtain ⟨i, hcd6_0, rfl, hs6_0, hs6_3, hs6_4, st5⟩ := hJ4
  have hsr := qK (t.data.toList.take i)
  have hsz : t.size = t.data.toList.length := rfl
  refine wp_seq (wp_seq (aA (sg (aB (v := I (i : Int)) hs6_4 (sg (aB (v := .string t) hs6_0 (sg (tY Tryz.underlying9 rfl (sg (aY rfl rfl (aE (aR rfl (fun h7 => ?_) (fun h7 => ?_)))))))))))))
  · have h7p := of_decide_eq_true h7
    refine wp_skip (wp_seq (wp_block (wp_seq (aA (sg (aB (v := I (gA (t.data.toList.take i))) hs6_3 (sg (aB (v := .string t) hs6_0 (sg (aB (v := I (i : Int)) hs6_4 ?_))))))))))
    have hi75860 : i < t.data.toList.length := (by omega)
    refine sg (tZ (i := i) Tryz.underlying9 rfl rfl hi75860 ?_)
    have hbr := rU (t.data.toList[i])
    refine sg (vP Tryz.underlying5 Tryz.underlying3 rfl (by omega) (sg (kL rfl rfl (by omega) (by omega) (sg (aD (v := I (fT (gA (t.data.toList.take i)) ((t.data.toList[i]'hi75860).toNat : Int))) rfl (aE (wp_seq (aA (sg (aD (v := I 0) rfl (aE (wp_block (bH (fun (m : Nat) (f : Nat → Value) (W : World) => ∃ (j : Nat), j ≤ 8 ∧ m = 8 - j ∧ f 0 = .string t ∧ f 3 = I (hU j (fT (gA (t.data.toList.take i)) ((t.data.toList[i]'hi75860).toNat : Int))) ∧ f 4 = I (i : Int) ∧ f 5 = I (j : Int) ∧ St w W ([])) (8 - 0) ?_ ?_)))))))))))))
    · exact ⟨0, Nat.zero_le _, rfl, hs6_0, rfl, hs6_4, rfl, st5⟩
    intro m8 f9 W10 hJ11
    obtain ⟨j, hcd13_0, rfl, hs13_0, hs13_3, hs13_4, hs13_5, st12⟩ := hJ11
    have hcr := oU (lW hsr (by omega : 0 ≤ ((t.data.toList[i]).toNat : Int) ∧ ((t.data.toList[i]).toNat : Int) < 4294967296)) j
    refine wp_seq (wp_seq (aA (sg (aB (v := I (j : Int)) hs13_5 (sg (aY rfl rfl (aE (aR rfl (fun h14 => ?_) (fun h14 => ?_)))))))))
    · have h14p := of_decide_eq_true h14
      refine wp_skip (wp_seq (wp_block (wp_seq (aA (sg (aB (v := I (hU j (fT (gA (t.data.toList.take i)) ((t.data.toList[i]'hi75860).toNat : Int)))) hs13_3 (sg (mT rfl rfl (by omega) (by omega) (sg (bA rfl rfl (sg (aD (v := .bool (decide (((hU j (fT (gA (t.data.toList.take i)) ((t.data.toList[i]'hi75860).toNat : Int))) % 2) = 1))) rfl (aE (wp_seq (aA ?_)))))))))))))))
      refine sg (aB (v := I (hU j (fT (gA (t.data.toList.take i)) ((t.data.toList[i]'hi75860).toNat : Int)))) hs13_3 (sg (qG rfl rfl (by omega) (by omega) (sg (aD (v := I ((hU j (fT (gA (t.data.toList.take i)) ((t.data.toList[i]'hi75860).toNat : Int))) / 2)) rfl (aE (wp_seq (aA (sg (aB (v := .bool (decide (((hU j (fT (gA (t.data.toList.take i)) ((t.data.toList[i]'hi75860).toNat : Int))) % 2) = 1))) rfl (aE (aR rfl (fun h15 => ?_) (fun h15 => ?_)))))))))))))
      · have h15p := of_decide_eq_true h15
        refine aA (sg (aB (v := I ((hU j (fT (gA (t.data.toList.take i)) ((t.data.toList[i]'hi75860).toNat : Int))) / 2)) rfl (sg (kL rfl rfl (by omega) (by omega) (sg (aD (v := I (fT ((hU j (fT (gA (t.data.toList.take i)) ((t.data.toList[i]'hi75860).toNat : Int))) / 2) 3988292384)) rfl (aE (aA (sg (aB (v := I (j : Int)) hs13_5 (sg (aP rfl rfl (by (simp only [I64] at *; omega)) (sg (aD (v := I ((j : Int) + 1)) rfl (aE ?_)))))))))))))))
        exact ⟨_, 8 - (j + 1), (by omega), rfl, j + 1, (by omega), rfl, hs13_0, (Eq.trans (show _ = I (fT ((hU j (fT (gA (t.data.toList.take i)) ((t.data.toList[i]'hi75860).toNat : Int))) / 2) 3988292384) from rfl) (show I (fT ((hU j (fT (gA (t.data.toList.take i)) ((t.data.toList[i]'hi75860).toNat : Int))) / 2) 3988292384) = _ from congrArg I (by show _ = jL _; unfold jL; rw [if_pos (by omega)]))), hs13_4, rfl, st12⟩
      · have h15p := of_decide_eq_false h15
        refine wp_skip (aA (sg (aB (v := I (j : Int)) hs13_5 (sg (aP rfl rfl (by (simp only [I64] at *; omega)) (sg (aD (v := I ((j : Int) + 1)) rfl (aE ?_))))))))
        exact ⟨_, 8 - (j + 1), (by omega), rfl, j + 1, (by omega), rfl, hs13_0, (Eq.trans (show _ = I ((hU j (fT (gA (t.data.toList.take i)) ((t.data.toList[i]'hi75860).toNat : Int))) / 2) from rfl) (show I ((hU j (fT (gA (t.data.toList.take i)) ((t.data.toList[i]'hi75860).toNat : Int))) / 2) = _ from congrArg I (by show _ = jL _; unfold jL; rw [if_neg (by omega)]))), hs13_4, rfl, st12⟩
    · have h14p := of_decide_eq_false h14
      refine wp_exit (aA (sg (aB (v := I (i : Int)) hs13_4 (sg (aP rfl rfl (by (simp only [I64] at *; omega)) (sg (aD (v := I ((i : Int) + 1)) rfl (aE ?_))))))))
      exact ⟨_, t.data.toList.length - (i + 1), (by omega), rfl, i + 1, (by omega), rfl, hs13_0, (Eq.trans (show _ = I (hU j (fT (gA (t.data.toList.take i)) ((t.data.toList[i]'hi75860).toNat : Int))) from hs13_3) (show I (hU j (fT (gA (t.data.toList.take i)) ((t.data.toList[i]'hi75860).toNat : Int))) = _ from (congrArg I (by rw [vN (by omega)]; have hj8 : j = 8 := (by omega); rw [hj8])))), rfl, st12⟩
  · have h7p := of_decide_eq_false h7
    refine wp_exit (wp_seq (aA (sg (aB (v := I (gA (t.data.toList.take i))) hs6_3 (sg (kL rfl rfl (by omega) (by omega) (sg (aD (v := I (fT (gA (t.data.toList.take i)) 4294967295)) rfl (aE (wp_ret ?_)))))))))); repeat first|refine aH ?_|refine aI ?_
    refine aW Tryz.results234 rfl ?_
    obtain rfl : i = t.data.toList.length := by omega
    exact ⟨(congrArg (fun z => Ending.returned (I z)) (by unfold oD; rw [List.take_length])), st5.bare⟩
set_option maxHeartbeats 2000000 in
theorem ShelfOfS (w : World) (id : Int) :
    Calls Tryz.prog 219 #[I id] w fun e w' => e = .returned (I (bG id)) ∧ St w w' [] := by
  refine dU Tryz.func219 rfl Tryz.ntmps219 (by decide) (wp_seq (aA (sg (aD (v := I 0) rfl (aE (wp_seq (aA (sg (aB (v := I id) rfl (sg (bI Tryz.func233 rfl rfl ((VarTextS w id).mono ?_)))))))))))); rintro _ W1 ⟨rfl, hk2⟩; refine ⟨_, rfl, ?_⟩
  have st3 := St.call (St.start w) hk2
  refine sg (aD (v := .string (fA id)) rfl (aE (wp_seq (wp_seq (aA (sg (aB (v := .string (fA id)) rfl (sg (uA rfl rfl (aE (aR rfl (fun h5 => ?_) (fun h5 => ?_))))))))))))
  · have h5p := of_decide_eq_true h5
    refine wp_seq (aA (sg (aD (v := I 0) rfl (aE (wp_ret ?_))))); repeat first|refine aH ?_|refine aI ?_
    refine aW Tryz.results219 rfl ?_
    exact ⟨(congrArg (fun z => Ending.returned (I z)) (by unfold bG; rw [if_pos h5p])), st3.bare⟩
  · have h5p := of_decide_eq_false h5
    refine wp_skip (wp_seq (aA (sg (aB (v := .string (fA id)) rfl (sg (bI Tryz.func234 rfl rfl ((SumOfS W1 (fA id) (by have := nZ id; omega)).mono ?_))))))); rintro _ W6 ⟨rfl, hk7⟩; refine ⟨_, rfl, ?_⟩
    have st8 := St.call st3 hk7
    have hsr := sC (fA id)
    refine sg (mT rfl rfl (by omega) (by omega) (sg (aD (v := I ((oD (fA id)) % 4)) rfl (aE (wp_ret ?_))))); repeat first|refine aH ?_|refine aI ?_
    refine aW Tryz.results219 rfl ?_
    exact ⟨(congrArg (fun z => Ending.returned (I z)) (by unfold bG; rw [if_neg h5p])), st8.bare⟩
end Go.Proofs.YtchnllpegfbleaaGreat
namespace Go.Proofs.YtchnllpegfbleaaGreat
set_option linter.unusedSimpArgs false
set_option linter.unusedVariables false
set_option maxRecDepth 100000
open Go.RowKit


def gC (y : Yard) (id : Int) : Option Nat := if y.runs.length ≤ 8 then hG (fun r => decide (r.id = id)) y.runs else none
def hO (y : Yard) (id : Int) : Int := ixI (gC y id)
theorem qO {y : Yard} {id : Int} {k : Nat} (h : gC y id = some k) : k < y.runs.length := by
  unfold gC at h
  split at h
  · exact (qI h).1
  · cases h
def fresh (y : Yard) (e : Entry) : Bool :=
  match gC y e.run with
  | none => false
  | some k => match y.runs[k]? with
    | none => false
    | some r => inB e.task 0 ((r.tasks.length : Int) - 1) && (match r.tasks[e.task.toNat]? with | some t => decide (t.state = 2) | none => false)
theorem nC {α : Type} {xss : List (List α)} {k : Nat} (h : k < xss.length) : (xss.take (k + 1)).flatten = (xss.take k).flatten ++ xss[k] := by
  rw [List.take_succ_eq_append_getElem h, List.flatten_append, List.flatten_cons, List.flatten_nil, List.append_nil]
theorem uO {α : Type} : ∀ (xss : List (List α)), xss.flatten.length = (xss.map (fun y => y.length)).sum
  | [] => rfl
  | x :: xss => by simp [uO xss]
theorem oS (y : Yard) (k : Nat) : ((y.shelf.take k).flatten).length ≤ y.wt := by
  have h1 := uO (y.shelf.take k)
  have h2 := iL (fun y : List Entry => y.length) y.shelf k
  unfold Yard.wt wtL
  omega
theorem filt_to {α : Type} {xs : List α} {p : α → Bool} {k : Nat} (h : k < xs.length) (hp : p xs[k] = true) : (xs.take (k + 1)).filter p = (xs.take k).filter p ++ [xs[k]] := by
  rw [List.take_succ_eq_append_getElem h, List.filter_append]; simp [hp]
theorem filt_to_f {α : Type} {xs : List α} {p : α → Bool} {k : Nat} (h : k < xs.length) (hp : p xs[k] = false) : (xs.take (k + 1)).filter p = (xs.take k).filter p := by
  rw [List.take_succ_eq_append_getElem h, List.filter_append]; simp [hp]

set_option maxHeartbeats 2000000 in
theorem RunAtC (w : World) {r : Run} {cs : List Value} {fp : List Nat} (hc : Shape.C w cs r fp) {b : Nat} {t : TypeId} {id : Int} (hB : (Res.bx b [I id] t).holds w) :
    Calls Tryz.prog 164 #[.agg cs.toArray, .pointer (some ⟨b, 0, none⟩)] w fun e w' => e = .returned (.bool (decide (r.id = id))) ∧ St w w' [] := by
  refine cF Tryz.func164 rfl Tryz.ntmps164 (by decide) (wp_seq (aA (sg (aQ (cs := cs) rfl (St.start w) ?_)))); intro b1 W2 hb3 st4
  refine sg (aD (v := .bool false) rfl (aE (wp_seq (aA (sg (aC eU rfl ?_))))))
  have hk6 := hc
  obtain ⟨v6_0, v6_1, g6_0, g6_1, rfl, hok6, h6_0, h6_1, rfl⟩ := hk6
  refine sg (aF aJ rfl rfl (st4.get 0 rfl) (i := 0) rfl rfl (sg (aK aJ rfl rfl (cD hB) st4.below (i := 0) rfl rfl (sg (bA rfl rfl (sg (aD (v := .bool (decide (r.id = id))) rfl (aE (wp_ret ?_))))))))); repeat first|refine aH ?_|refine aI ?_
  refine aW Tryz.results164 rfl ?_
  exact ⟨rfl, st4.bare⟩
set_option maxHeartbeats 2000000 in
theorem IndexRun (w : World) {v : Value} {xs : List Run} {fp : List Nat} (h : Sl w v xs fp) (F : FuncId) (capt : List Value) {fn : Func} (hfn : Tryz.prog.funcs[F]? = some fn) (hok : ((fn.name == "runtime.NumGoroutine") || fn.body.isNone) = false) (p : Run → Bool)
    (hF : ∀ (w1 : World) (i : Nat) (hi : i < xs.length) (cs : List Value) (f1 : List Nat), Below w.heap.size w w1 → Shape.C w1 cs xs[i] f1 → Calls Tryz.prog F (Value.agg cs.toArray :: capt).toArray w1 fun e w2 => e = .returned (.bool (p xs[i])) ∧ St w1 w2 []) :
    Calls Tryz.prog 163 #[v, .func (.func F) #[] capt.toArray] w fun e w' => e = .returned (I (ixI (hG p xs))) ∧ St w w' [] := by
  have hcap := h.len_le
  refine cF Tryz.func163 rfl Tryz.ntmps163 (by decide) (wp_seq (aA (sg (aD (v := I 0) rfl (aE (wp_seq (wp_seq (aA (sg (aB (v := v) rfl (sg (aV bV rfl h (sg (aB (v := I 0) rfl (aE ?_)))))))))))))))
  refine wp_block (bH (fun (m : Nat) (f : Nat → Value) (W : World) => ∃ (k : Nat), k ≤ xs.length ∧ (xs.take k).any p = false ∧ m = xs.length - k ∧ f 0 = v ∧ f 1 = .func (.func F) #[] capt.toArray ∧ f 7 = I (xs.length : Int) ∧ f 8 = I (k : Int) ∧ St w W ([])) (xs.length - 0) ?_ ?_)
  · exact ⟨0, Nat.zero_le _, rfl, rfl, rfl, rfl, rfl, rfl, (St.start w)⟩
  intro m1 f2 W3 hJ4
  obtain ⟨k, hk, hany, rfl, hs6_0, hs6_1, hs6_7, hs6_8, st5⟩ := hJ4
  refine wp_seq (aA (sg (aY hs6_8 hs6_7 (aE (wp_seq (aR rfl (fun h7 => ?_) (fun h7 => ?_)))))))
  · have h7p := of_decide_eq_true h7
    refine wp_skip (wp_seq (wp_block (wp_seq (aA (sg (aB (v := I (k : Int)) hs6_8 (sg (aD (v := I (k : Int)) rfl (aE (wp_seq (aA (sg (aB (v := .func (.func F) #[] capt.toArray) hs6_1 (sg (aB (v := v) hs6_0 ?_)))))))))))))))
    refine sg (aB (v := I (k : Int)) rfl ?_)
    have hi51fab : k < xs.length := (by omega)
    have hq_ := idx h (i := k) hi51fab
    obtain ⟨b8, o8, cs8, f8, hp8, hr8, hc8, hm8⟩ := hq_
    refine sg (aG bV rfl hp8 rfl rfl (sg (bY cY rfl rfl hr8 st5.below (Shape.len hc8) (sg (pI (first := []) hfn hok rfl (sM (v := .agg cs8.toArray) rfl tO) ((hF W3 k (by omega) _ _ st5.below (cA hc8 st5.below)).mono ?_)))))); rintro _ W9 ⟨rfl, hk10⟩; refine ⟨_, rfl, ?_⟩
    have st11 := St.call st5 hk10
    refine aE (aR rfl (fun h12 => ?_) (fun h12 => ?_))
    · refine wp_seq (aA (sg (aB (v := I (k : Int)) rfl (sg (aD (v := I (k : Int)) rfl (aE (wp_ret ?_))))))); repeat first|refine aH ?_|refine aI ?_
      refine aW Tryz.results163 rfl ?_
      exact ⟨(congrArg (fun z => Ending.returned (I z)) (by rw [iZ (by omega) hany h12]; try rfl)), st11.bare⟩
    · refine wp_skip (aA (sg (aP hs6_8 rfl (by (simp only [I64] at *; omega)) (sg (aB (v := I ((k : Int) + 1)) rfl (aE ?_))))))
      exact ⟨_, xs.length - (k + 1), (by omega), rfl, k + 1, (by omega), (rW (by omega) hany h12), rfl, hs6_0, hs6_1, hs6_7, rfl, st11⟩
  · have h7p := of_decide_eq_false h7
    refine wp_exit (wp_seq (aA (sg (aD (v := I (-1)) rfl (aE (wp_ret ?_)))))); repeat first|refine aH ?_|refine aI ?_
    refine aW Tryz.results163 rfl ?_
    obtain rfl : k = xs.length := by omega
    rw [List.take_length] at hany
    exact ⟨(congrArg (fun z => Ending.returned (I z)) (by rw [jA hany]; try rfl)), st5.bare⟩
set_option maxHeartbeats 2000000 in
theorem vJ (w : World) {y : Yard} {cs : List Value} {fp : List Nat} (hc : Shape.C w cs y fp) (id : Int) (hw : y.wt ≤ 1048576) :
    Calls Tryz.prog 98 #[.agg cs.toArray, I id] w fun e w' => e = .returned (I (hO y id)) ∧ St w w' [] := by
  have hyr : y.runs.length ≤ y.wt := by unfold Yard.wt wtL; omega
  refine cF Tryz.func98 rfl Tryz.ntmps98 (by decide) (wp_seq (aA (sg (aQ (cs := cs) rfl (St.start w) ?_)))); intro b1 W2 hb3 st4
  refine sg (stp_box_one (v := I id) rfl rfl st4 ?_); intro b6 W7 hb8 st9
  refine sg (aD (v := I 0) rfl (aE (wp_seq (wp_seq (aA (sg (aC bW rfl ?_)))))))
  have hk11 := hc
  obtain ⟨v11_0, v11_1, g11_0, g11_1, rfl, hok11, h11_0, h11_1, rfl⟩ := hk11
  refine sg (aF cV rfl rfl (st9.get 1 rfl) (i := 3) rfl rfl (sg (aV bV rfl h11_1 (sg (fV rfl rfl (aE (aR rfl (fun h12 => ?_) (fun h12 => ?_))))))))
  · have h12p := of_decide_eq_true h12
    refine wp_seq (aA (sg (aD (v := I (-1)) rfl (aE (wp_ret ?_))))); repeat first|refine aH ?_|refine aI ?_
    refine aW Tryz.results98 rfl ?_
    exact ⟨(congrArg (fun z => Ending.returned (I z)) (by unfold hO gC; rw [if_neg (by omega)]; try rfl)), st9.bare⟩
  · have h12p := of_decide_eq_false h12
    refine wp_skip (wp_seq (aA (sg (aC bW rfl (sg (aF cV rfl rfl (st9.get 1 rfl) (i := 3) rfl rfl (sg (kV tO (sM (v := .pointer (some ⟨b6, 0, none⟩)) rfl tO) (sg (aZ Tryz.func163 rfl rfl rfl ((IndexRun W7 (h11_1.below st9.below) 164 [.pointer (some ⟨b6, 0, none⟩)] Tryz.func164 rfl (fun r => decide (r.id = id)) (fun w1 i hi cs f1 hb hc => RunAtC w1 hc (Res.below (st9.get 0 rfl) hb))).mono ?_))))))))))); rintro _ W13 ⟨rfl, hk14⟩; refine ⟨_, rfl, ?_⟩
    have st15 := St.call st9 hk14
    refine sg (aD (v := I (ixI (hG (fun r => decide (r.id = id)) y.runs))) rfl (aE (wp_ret ?_))); repeat first|refine aH ?_|refine aI ?_
    refine aW Tryz.results98 rfl ?_
    exact ⟨(congrArg (fun z => Ending.returned (I z)) (by unfold hO gC; rw [if_pos (by omega)])), st15.bare⟩
set_option maxHeartbeats 2000000 in
theorem vI (w : World) {y : Yard} {cs : List Value} {fp : List Nat} (hc : Shape.C w cs y fp) (id : Int) (hw : y.wt ≤ 1048576) :
    Calls Tryz.prog 90 #[.agg cs.toArray, I id] w fun e w' => e = .returned (I (hO y id)) ∧ St w w' [] := by
  have hyr : y.runs.length ≤ y.wt := by unfold Yard.wt wtL; omega
  refine cF Tryz.func90 rfl Tryz.ntmps90 (by decide) (wp_seq (aA (sg (aQ (cs := cs) rfl (St.start w) ?_)))); intro b1 W2 hb3 st4
  refine sg (aD (v := I 0) rfl (aE (wp_seq (wp_seq (aA (sg (aD (v := I 0) rfl (aE (wp_block (bH (fun (m : Nat) (f : Nat → Value) (W : World) => ∃ (k : Nat), k ≤ y.runs.length ∧ (y.runs.take k).any (fun r : Run => decide (r.id = id)) = false ∧ m = y.runs.length - k ∧ f 1 = I id ∧ f 2 = .pointer (some ⟨b1, 0, none⟩) ∧ f 5 = I (k : Int) ∧ St w W ([Res.bx b1 cs 34])) (y.runs.length - 0) ?_ ?_))))))))))
  · exact ⟨0, Nat.zero_le _, rfl, rfl, rfl, rfl, rfl, st4⟩
  intro m6 f7 W8 hJ9
  obtain ⟨k, hk, hany, rfl, hs11_1, hs11_2, hs11_5, st10⟩ := hJ9
  refine wp_seq (wp_seq (aA (sg (aB (v := I (k : Int)) hs11_5 (sg (aC bW hs11_2 ?_))))))
  have hk12 := hc
  obtain ⟨v12_0, v12_1, g12_0, g12_1, rfl, hok12, h12_0, h12_1, rfl⟩ := hk12
  refine sg (aF cV rfl rfl (st10.get 0 rfl) (i := 3) rfl rfl (sg (aV bV rfl h12_1 (sg (aY rfl rfl (sg (aB (v := .bool (decide ((k : Int) < (y.runs.length : Int)))) rfl ?_)))))))
  rcases bd (decide ((k : Int) < (y.runs.length : Int))) with h13 | h13
  · have h13p := of_decide_eq_false h13
    iterate 4 refine sgf 11 rfl (by decide) (bF rfl h13) ?_
    refine sg (aO (v := .bool false) ((rfl : _ = (.bool (decide ((k : Int) < (y.runs.length : Int))) : Value)).trans (congrArg Value.bool h13)) rfl (aE (gX rfl rfl (wp_exit (wp_seq (aA (sg (aD (v := I (-1)) rfl (aE (wp_ret ?_)))))))))); repeat first|refine aH ?_|refine aI ?_
    refine aW Tryz.results90 rfl ?_
    obtain rfl : k = y.runs.length := by omega
    rw [List.take_length] at hany
    exact ⟨(congrArg (fun z => Ending.returned (I z)) (by unfold hO gC; rw [jA hany]; split <;> rfl)), st10.bare⟩
  · have h13p := of_decide_eq_true h13
    refine sgo 11 rfl (by decide) (aL rfl h13) (aC bW hs11_2 (sgo 11 rfl (by decide) (aL rfl h13) (aF cV rfl rfl (st10.get 0 rfl) (i := 3) rfl rfl (sgo 11 rfl (by decide) (aL rfl h13) (aV bV rfl h12_1 (sgo 11 rfl (by decide) (aL rfl h13) (qH rfl rfl (sg (aN (v := .bool (decide ((y.runs.length : Int) ≤ 8))) ((rfl : _ = (.bool (decide ((k : Int) < (y.runs.length : Int))) : Value)).trans (congrArg Value.bool h13)) rfl (aE (aR rfl (fun h14 => ?_) (fun h14 => ?_))))))))))))
    · have h14p := of_decide_eq_true h14
      refine wp_skip (wp_seq (wp_block (wp_seq (aA (sg (aC bW hs11_2 (sg (aF cV rfl rfl (st10.get 0 rfl) (i := 3) rfl rfl (sg (aB (v := I (k : Int)) hs11_5 ?_))))))))))
      have hi24e2d : k < y.runs.length := (by omega)
      have hq_ := idx h12_1 (i := k) hi24e2d
      obtain ⟨b15, o15, cs15, f15, hp15, hr15, hc15, hm15⟩ := hq_
      refine sg (aG bV rfl hp15 rfl rfl (sg (aC eU rfl ?_)))
      have hk16 := hc15
      obtain ⟨v16_0, v16_1, g16_0, g16_1, rfl, hok16, h16_0, h16_1, rfl⟩ := hk16
      refine sg (aK aJ rfl rfl hr15 st10.below (i := 0) rfl rfl (sg (aB (v := I id) hs11_1 (sg (bA rfl rfl (aE (aR rfl (fun h17 => ?_) (fun h17 => ?_))))))))
      · have h17p := of_decide_eq_true h17
        refine wp_seq (aA (sg (aB (v := I (k : Int)) hs11_5 (sg (aD (v := I (k : Int)) rfl (aE (wp_ret ?_))))))); repeat first|refine aH ?_|refine aI ?_
        refine aW Tryz.results90 rfl ?_
        exact ⟨(congrArg (fun z => Ending.returned (I z)) (by unfold hO gC; rw [if_pos (by omega), iZ (by omega) hany h17]; try rfl)), st10.bare⟩
      · have h17p := of_decide_eq_false h17
        refine wp_skip (aA (sg (aB (v := I (k : Int)) hs11_5 (sg (aP rfl rfl (by (simp only [I64] at *; omega)) (sg (aD (v := I ((k : Int) + 1)) rfl (aE ?_))))))))
        exact ⟨_, y.runs.length - (k + 1), (by omega), rfl, k + 1, (by omega), (rW (by omega) hany h17), rfl, hs11_1, hs11_2, rfl, st10⟩
    · have h14p := of_decide_eq_false h14
      refine wp_exit (wp_seq (aA (sg (aD (v := I (-1)) rfl (aE (wp_ret ?_)))))); repeat first|refine aH ?_|refine aI ?_
      refine aW Tryz.results90 rfl ?_
      exact ⟨(congrArg (fun z => Ending.returned (I z)) (by unfold hO gC; rw [if_neg (by omega)]; try rfl)), st10.bare⟩
theorem qR {y : Yard} {id : Int} (h : gC y id = none) : hO y id = -1 := by unfold hO; rw [h]; rfl
theorem qQ {y : Yard} {id : Int} {k : Nat} (h : gC y id = some k) : hO y id = k := by unfold hO; rw [h]; rfl

theorem uW (w : World) {y : Yard} {cs : List Value} {fp : List Nat} (hc : Shape.C w cs y fp) (id : Int) (hw : y.wt ≤ 1048576) (h : gC y id = none) :
    Calls Tryz.prog 98 #[.agg cs.toArray, I id] w fun e w' => e = .returned (I (-1)) ∧ St w w' [] := by
  have := vJ w hc id hw
  rwa [qR h] at this
theorem uV (w : World) {y : Yard} {cs : List Value} {fp : List Nat} (hc : Shape.C w cs y fp) (id : Int) (hw : y.wt ≤ 1048576) {i : Nat} (h : gC y id = some i) :
    Calls Tryz.prog 98 #[.agg cs.toArray, I id] w fun e w' => e = .returned (I (i : Int)) ∧ St w w' [] := by
  have := vJ w hc id hw
  rwa [qQ h] at this
set_option maxHeartbeats 2000000 in
theorem FreshI_n (w : World) {y : Yard} {cs : List Value} {fp : List Nat} (hc : Shape.C w cs y fp) {e : Entry} {ds : List Value} {gp : List Nat} (hd : Shape.C w ds e gp) (hw : y.wt ≤ 1048576) (hix : gC y e.run = none) :
    Calls Tryz.prog 165 #[.agg cs.toArray, .agg ds.toArray] w fun ee w' => ee = .returned (.bool (fresh y e)) ∧ St w w' [] := by
  refine cF Tryz.func165 rfl Tryz.ntmps165 (by decide) (wp_seq (aA (sg (aQ (cs := cs) rfl (St.start w) ?_)))); intro b1 W2 hb3 st4
  refine sg (aQ (cs := ds) rfl st4 ?_); intro b6 W7 hb8 st9
  refine sg (aD (v := .bool false) rfl (aE (wp_seq (aA (sg (bE cC rfl rfl (st9.get 1 rfl) (Shape.len hc) (sg (aC fQ rfl ?_))))))))
  have hk11 := hd
  obtain ⟨he11, rfl, hok11⟩ := hk11
  have he11 : _ = [I e.prio, I e.seq, I e.run, I e.task] := he11
  subst he11
  refine sg (aF aJ rfl rfl (st9.get 0 rfl) (i := 2) rfl rfl (sg (aZ Tryz.func98 rfl rfl rfl ((uW W7 (cA hc st9.below) e.run hw hix).mono ?_)))); rintro _ W12 ⟨rfl, hk13⟩; refine ⟨_, rfl, ?_⟩
  have st14 := St.call st9 hk13
  refine sg (aD (v := I (-1)) rfl (aE (wp_seq ?_)))
  rcases bd (decide (0 ≤ (-1))) with h16 | h16
  · have h16p := of_decide_eq_false h16
    refine dI [Pl.is (I (-1)), Pl.bool false, Pl.bool false, Pl.off, Pl.off, Pl.off, Pl.off, Pl.off, Pl.off, Pl.off, Pl.off, Pl.off, Pl.off, Pl.off, Pl.bool false, Pl.bool false, Pl.off, Pl.off, Pl.off, Pl.off, Pl.off, Pl.off, Pl.off, Pl.off, Pl.off, Pl.off, Pl.off, Pl.off, Pl.bool false, Pl.bool false] mix (by rfl) st14 ⟨(fun f W hst hbl hd hf => aB (v := I (-1)) ((hf 5 rfl).trans (show _ = I (-1) from rfl)) brq), (fun f W hst hbl hd hf => gT (hd 0 10 rfl rfl) rfl ⟨Below.refl _ _, congrArg Value.bool h16⟩), (fun f W hst hbl hd hf => aB (v := .bool false) (hd 1 11 rfl rfl) brq), (fun f W hst hbl hd hf => rfl), (fun f W hst hbl hd hf => rfl), (fun f W hst hbl hd hf => rfl), (fun f W hst hbl hd hf => rfl), (fun f W hst hbl hd hf => rfl), (fun f W hst hbl hd hf => rfl), (fun f W hst hbl hd hf => rfl), (fun f W hst hbl hd hf => rfl), (fun f W hst hbl hd hf => rfl), (fun f W hst hbl hd hf => rfl), (fun f W hst hbl hd hf => rfl), (fun f W hst hbl hd hf => aO (v := .bool false) (hd 2 12 rfl rfl) rfl brq), (fun f W hst hbl hd hf => aB (v := .bool false) (hd 14 24 rfl rfl) brq), (fun f W hst hbl hd hf => rfl), (fun f W hst hbl hd hf => rfl), (fun f W hst hbl hd hf => rfl), (fun f W hst hbl hd hf => rfl), (fun f W hst hbl hd hf => rfl), (fun f W hst hbl hd hf => rfl), (fun f W hst hbl hd hf => rfl), (fun f W hst hbl hd hf => rfl), (fun f W hst hbl hd hf => rfl), (fun f W hst hbl hd hf => rfl), (fun f W hst hbl hd hf => rfl), (fun f W hst hbl hd hf => rfl), (fun f W hst hbl hd hf => aO (v := .bool false) (hd 15 25 rfl rfl) rfl brq), (fun f W hst hbl hd hf => aD (v := .bool false) (hd 28 38 rfl rfl) brq), trivial⟩ ?_
    intro f17 W18 st19 hb20 hv21 hf22
    refine wp_ret ?_; repeat first|refine aH ?_|refine aI ?_
    refine aW Tryz.results165 (hv21 29 4 (by decide) rfl) ?_
    exact ⟨(congrArg (fun z => Ending.returned (.bool z)) (by unfold fresh; rw [hix])), st19.bare⟩
  · have h16p := of_decide_eq_true h16
    omega
set_option maxHeartbeats 2000000 in
theorem FreshI_s (w : World) {y : Yard} {cs : List Value} {fp : List Nat} (hc : Shape.C w cs y fp) {e : Entry} {ds : List Value} {gp : List Nat} (hd : Shape.C w ds e gp) (hw : y.wt ≤ 1048576) {i : Nat} (hix : gC y e.run = some i) :
    Calls Tryz.prog 165 #[.agg cs.toArray, .agg ds.toArray] w fun ee w' => ee = .returned (.bool (fresh y e)) ∧ St w w' [] := by
  have hil := qO hix
  have hyk := jU hil
  have hrw : y.runs[i].tasks.length ≤ y.runs[i].wt := by unfold Run.wt; omega
  refine cF Tryz.func165 rfl Tryz.ntmps165 (by decide) (wp_seq (aA (sg (aQ (cs := cs) rfl (St.start w) ?_)))); intro b1 W2 hb3 st4
  refine sg (aQ (cs := ds) rfl st4 ?_); intro b6 W7 hb8 st9
  refine sg (aD (v := .bool false) rfl (aE (wp_seq (aA (sg (bE cC rfl rfl (st9.get 1 rfl) (Shape.len hc) (sg (aC fQ rfl ?_))))))))
  have hk11 := hd
  obtain ⟨he11, rfl, hok11⟩ := hk11
  have he11 : _ = [I e.prio, I e.seq, I e.run, I e.task] := he11
  subst he11
  refine sg (aF aJ rfl rfl (st9.get 0 rfl) (i := 2) rfl rfl (sg (aZ Tryz.func98 rfl rfl rfl ((uV W7 (cA hc st9.below) e.run hw hix).mono ?_)))); rintro _ W12 ⟨rfl, hk13⟩; refine ⟨_, rfl, ?_⟩
  have st14 := St.call st9 hk13
  refine sg (aD (v := I (i : Int)) rfl (aE (wp_seq ?_)))
  rcases bd (decide (0 ≤ (i : Int))) with h16 | h16
  · have h16p := of_decide_eq_false h16
    omega
  · have h16p := of_decide_eq_true h16
    have hk17 := hc
    obtain ⟨v17_0, v17_1, g17_0, g17_1, rfl, hok17, h17_0, h17_1, rfl⟩ := hk17
    have hia2a90 : i < y.runs.length := (by omega)
    rcases bd (inB e.task 0 (((y.runs[i]'hia2a90).tasks.length : Int) - 1)) with h20 | h20
    · have h20p := dN h20
      have hia2a90 : i < y.runs.length := (by omega)
      have hq_ := idx h17_1 (i := i) hia2a90
      obtain ⟨b21, o21, cs21, f21, hp21, hr21, hc21, hm21⟩ := hq_
      have hk22 := hc21
      obtain ⟨v22_0, v22_1, g22_0, g22_1, rfl, hok22, h22_0, h22_1, rfl⟩ := hk22
      refine dI [Pl.is (I (i : Int)), Pl.bool true, Pl.bool true, Pl.is (.pointer (some ⟨b6, 0 + 3, none⟩)), Pl.is (I e.task), Pl.is (.pointer (some ⟨b1, 0 + 3, none⟩)), Pl.is (v17_1) (Sl.yl h17_1), Pl.is (I (i : Int)), Pl.is (.pointer (some ⟨b21, o21, none⟩)), Pl.is (.pointer (some ⟨b21, o21 + 7, none⟩)), Pl.is (v22_1) (Sl.yl h22_1), Pl.is (I ((y.runs[i]'hia2a90).tasks.length : Int)), Pl.is (I (((y.runs[i]'hia2a90).tasks.length : Int) - 1)), Pl.bool (inB e.task 0 (((y.runs[i]'hia2a90).tasks.length : Int) - 1)), Pl.bool false, Pl.bool false, Pl.off, Pl.off, Pl.off, Pl.off, Pl.off, Pl.off, Pl.off, Pl.off, Pl.off, Pl.off, Pl.off, Pl.off, Pl.bool false, Pl.bool false] mix (by rfl) st14 ⟨(fun f W hst hbl hd hf => aB (v := I (i : Int)) ((hf 5 rfl).trans (show _ = I (i : Int) from rfl)) brq), (fun f W hst hbl hd hf => gT (hd 0 10 rfl rfl) rfl ⟨Below.refl _ _, congrArg Value.bool h16⟩), (fun f W hst hbl hd hf => aB (v := .bool true) (hd 1 11 rfl rfl) brq), (fun f W hst hbl hd hf => aC fH ((hf 3 rfl).trans (show _ = (.pointer (some ⟨b6, 0, none⟩) : Value) from rfl)) brq), (fun f W hst hbl hd hf => aF aJ rfl (hd 3 13 rfl rfl) (hst.get 0 rfl) (i := 3) rfl rfl brq), (fun f W hst hbl hd hf => aC bW ((hf 2 rfl).trans (show _ = (.pointer (some ⟨b1, 0, none⟩) : Value) from rfl)) brq), (fun f W hst hbl hd hf => aF cV rfl (hd 5 15 rfl rfl) (hst.get 1 rfl) (i := 3) rfl rfl brq), (fun f W hst hbl hd hf => aB (v := I (i : Int)) ((hf 5 rfl).trans (show _ = I (i : Int) from rfl)) brq), (fun f W hst hbl hd hf => aG bV (hd 6 16 rfl rfl) hp21 (hd 7 17 rfl rfl) rfl brq), (fun f W hst hbl hd hf => aC bJ (hd 8 18 rfl rfl) brq), (fun f W hst hbl hd hf => aK bM rfl (hd 9 19 rfl rfl) hr21 hst.below (i := 7) rfl rfl brq), (fun f W hst hbl hd hf => aV bD (hd 10 20 rfl rfl) h22_1 brq), (fun f W hst hbl hd hf => fI (hd 11 21 rfl rfl) rfl (by (simp only [I64] at *; omega)) brq), (fun f W hst hbl hd hf => bS Tryz.func47 rfl (hd 4 14 rfl rfl) rfl (hd 12 22 rfl rfl) ((eL W e.task 0 (((y.runs[i]'hia2a90).tasks.length : Int) - 1)).mono (by rintro e W2 ⟨rfl, hk⟩; exact ⟨_, rfl, hk.below, rfl⟩))), (fun f W hst hbl hd hf => aN (v := .bool (inB e.task 0 (((y.runs[i]'hia2a90).tasks.length : Int) - 1))) (hd 2 12 rfl rfl) (hd 13 23 rfl rfl) ⟨Below.refl _ _, congrArg Value.bool h20⟩), (fun f W hst hbl hd hf => aB (v := .bool false) (hd 14 24 rfl rfl) brq), (fun f W hst hbl hd hf => rfl), (fun f W hst hbl hd hf => rfl), (fun f W hst hbl hd hf => rfl), (fun f W hst hbl hd hf => rfl), (fun f W hst hbl hd hf => rfl), (fun f W hst hbl hd hf => rfl), (fun f W hst hbl hd hf => rfl), (fun f W hst hbl hd hf => rfl), (fun f W hst hbl hd hf => rfl), (fun f W hst hbl hd hf => rfl), (fun f W hst hbl hd hf => rfl), (fun f W hst hbl hd hf => rfl), (fun f W hst hbl hd hf => aO (v := .bool false) (hd 15 25 rfl rfl) rfl brq), (fun f W hst hbl hd hf => aD (v := .bool false) (hd 28 38 rfl rfl) brq), trivial⟩ ?_
      intro f23 W24 st25 hb26 hv27 hf28
      refine wp_ret ?_; repeat first|refine aH ?_|refine aI ?_
      refine aW Tryz.results165 (hv27 29 4 (by decide) rfl) ?_
      exact ⟨(congrArg (fun z => Ending.returned (.bool z)) (by unfold fresh; rw [hix]; simp only [List.getElem?_eq_getElem hil, h20, Bool.false_and])), st25.bare⟩
    · have h20p := inB_iff'.1 h20
      have hia2a90 : i < y.runs.length := (by omega)
      have hq_ := idx h17_1 (i := i) hia2a90
      obtain ⟨b29, o29, cs29, f29, hp29, hr29, hc29, hm29⟩ := hq_
      have hk30 := hc29
      obtain ⟨v30_0, v30_1, g30_0, g30_1, rfl, hok30, h30_0, h30_1, rfl⟩ := hk30
      have hif34c4 : (e.task).toNat < (y.runs[i]'hia2a90).tasks.length := (by omega)
      have hq_ := idx h30_1 (i := (e.task).toNat) hif34c4
      obtain ⟨b31, o31, cs31, f31, hp31, hr31, hc31, hm31⟩ := hq_
      have hk32 := hc31
      obtain ⟨he32, rfl, hok32⟩ := hk32
      have he32 : _ = [I ((y.runs[i]'hia2a90).tasks[(e.task).toNat]'hif34c4).state, I ((y.runs[i]'hia2a90).tasks[(e.task).toNat]'hif34c4).need, I ((y.runs[i]'hia2a90).tasks[(e.task).toNat]'hif34c4).try_, I ((y.runs[i]'hia2a90).tasks[(e.task).toNat]'hif34c4).until_] := he32
      subst he32
      refine dI [Pl.is (I (i : Int)), Pl.bool true, Pl.bool true, Pl.is (.pointer (some ⟨b6, 0 + 3, none⟩)), Pl.is (I e.task), Pl.is (.pointer (some ⟨b1, 0 + 3, none⟩)), Pl.is (v17_1) (Sl.yl h17_1), Pl.is (I (i : Int)), Pl.is (.pointer (some ⟨b29, o29, none⟩)), Pl.is (.pointer (some ⟨b29, o29 + 7, none⟩)), Pl.is (v30_1) (Sl.yl h30_1), Pl.is (I ((y.runs[i]'hia2a90).tasks.length : Int)), Pl.is (I (((y.runs[i]'hia2a90).tasks.length : Int) - 1)), Pl.bool (inB e.task 0 (((y.runs[i]'hia2a90).tasks.length : Int) - 1)), Pl.bool true, Pl.bool true, Pl.is (.pointer (some ⟨b1, 0 + 3, none⟩)), Pl.is (v17_1) (Sl.yl h17_1), Pl.is (I (i : Int)), Pl.is (.pointer (some ⟨b29, o29, none⟩)), Pl.is (.pointer (some ⟨b29, o29 + 7, none⟩)), Pl.is (v30_1) (Sl.yl h30_1), Pl.is (.pointer (some ⟨b6, 0 + 3, none⟩)), Pl.is (I e.task), Pl.is (.pointer (some ⟨b31, o31, none⟩)), Pl.is (.pointer (some ⟨b31, o31 + 0, none⟩)), Pl.is (I ((y.runs[i]'hia2a90).tasks[(e.task).toNat]'hif34c4).state), Pl.bool (decide (((y.runs[i]'hia2a90).tasks[(e.task).toNat]'hif34c4).state = 2)), Pl.bool (decide (((y.runs[i]'hia2a90).tasks[(e.task).toNat]'hif34c4).state = 2)), Pl.bool (decide (((y.runs[i]'hia2a90).tasks[(e.task).toNat]'hif34c4).state = 2))] mix (by rfl) st14 ⟨(fun f W hst hbl hd hf => aB (v := I (i : Int)) ((hf 5 rfl).trans (show _ = I (i : Int) from rfl)) brq), (fun f W hst hbl hd hf => gT (hd 0 10 rfl rfl) rfl ⟨Below.refl _ _, congrArg Value.bool h16⟩), (fun f W hst hbl hd hf => aB (v := .bool true) (hd 1 11 rfl rfl) brq), (fun f W hst hbl hd hf => aC fH ((hf 3 rfl).trans (show _ = (.pointer (some ⟨b6, 0, none⟩) : Value) from rfl)) brq), (fun f W hst hbl hd hf => aF aJ rfl (hd 3 13 rfl rfl) (hst.get 0 rfl) (i := 3) rfl rfl brq), (fun f W hst hbl hd hf => aC bW ((hf 2 rfl).trans (show _ = (.pointer (some ⟨b1, 0, none⟩) : Value) from rfl)) brq), (fun f W hst hbl hd hf => aF cV rfl (hd 5 15 rfl rfl) (hst.get 1 rfl) (i := 3) rfl rfl brq), (fun f W hst hbl hd hf => aB (v := I (i : Int)) ((hf 5 rfl).trans (show _ = I (i : Int) from rfl)) brq), (fun f W hst hbl hd hf => aG bV (hd 6 16 rfl rfl) hp29 (hd 7 17 rfl rfl) rfl brq), (fun f W hst hbl hd hf => aC bJ (hd 8 18 rfl rfl) brq), (fun f W hst hbl hd hf => aK bM rfl (hd 9 19 rfl rfl) hr29 hst.below (i := 7) rfl rfl brq), (fun f W hst hbl hd hf => aV bD (hd 10 20 rfl rfl) h30_1 brq), (fun f W hst hbl hd hf => fI (hd 11 21 rfl rfl) rfl (by (simp only [I64] at *; omega)) brq), (fun f W hst hbl hd hf => bS Tryz.func47 rfl (hd 4 14 rfl rfl) rfl (hd 12 22 rfl rfl) ((eL W e.task 0 (((y.runs[i]'hia2a90).tasks.length : Int) - 1)).mono (by rintro e W2 ⟨rfl, hk⟩; exact ⟨_, rfl, hk.below, rfl⟩))), (fun f W hst hbl hd hf => aN (v := .bool (inB e.task 0 (((y.runs[i]'hia2a90).tasks.length : Int) - 1))) (hd 2 12 rfl rfl) (hd 13 23 rfl rfl) ⟨Below.refl _ _, congrArg Value.bool h20⟩), (fun f W hst hbl hd hf => aB (v := .bool true) (hd 14 24 rfl rfl) brq), (fun f W hst hbl hd hf => aC bW ((hf 2 rfl).trans (show _ = (.pointer (some ⟨b1, 0, none⟩) : Value) from rfl)) brq), (fun f W hst hbl hd hf => aF cV rfl (hd 16 26 rfl rfl) (hst.get 1 rfl) (i := 3) rfl rfl brq), (fun f W hst hbl hd hf => aB (v := I (i : Int)) ((hf 5 rfl).trans (show _ = I (i : Int) from rfl)) brq), (fun f W hst hbl hd hf => aG bV (hd 17 27 rfl rfl) hp29 (hd 18 28 rfl rfl) rfl brq), (fun f W hst hbl hd hf => aC bJ (hd 19 29 rfl rfl) brq), (fun f W hst hbl hd hf => aK bM rfl (hd 20 30 rfl rfl) hr29 hst.below (i := 7) rfl rfl brq), (fun f W hst hbl hd hf => aC fH ((hf 3 rfl).trans (show _ = (.pointer (some ⟨b6, 0, none⟩) : Value) from rfl)) brq), (fun f W hst hbl hd hf => aF aJ rfl (hd 22 32 rfl rfl) (hst.get 0 rfl) (i := 3) rfl rfl brq), (fun f W hst hbl hd hf => aG bD (hd 21 31 rfl rfl) hp31 (hd 23 33 rfl rfl) (by omega) brq), (fun f W hst hbl hd hf => aC bP (hd 24 34 rfl rfl) brq), (fun f W hst hbl hd hf => aK aJ rfl (hd 25 35 rfl rfl) hr31 hst.below (i := 0) rfl rfl brq), (fun f W hst hbl hd hf => bA (hd 26 36 rfl rfl) rfl brq), (fun f W hst hbl hd hf => aN (v := .bool (decide (((y.runs[i]'hia2a90).tasks[(e.task).toNat]'hif34c4).state = 2))) (hd 15 25 rfl rfl) (hd 27 37 rfl rfl) brq), (fun f W hst hbl hd hf => aD (v := .bool (decide (((y.runs[i]'hia2a90).tasks[(e.task).toNat]'hif34c4).state = 2))) (hd 28 38 rfl rfl) brq), trivial⟩ ?_
      intro f33 W34 st35 hb36 hv37 hf38
      refine wp_ret ?_; repeat first|refine aH ?_|refine aI ?_
      refine aW Tryz.results165 (hv37 29 4 (by decide) rfl) ?_
      exact ⟨(congrArg (fun z => Ending.returned (.bool z)) (by unfold fresh; rw [hix]; simp only [List.getElem?_eq_getElem hil, h20, Bool.true_and]; rw [List.getElem?_eq_getElem (by omega)])), st35.bare⟩
theorem FreshI (w : World) {y : Yard} {cs : List Value} {fp : List Nat} (hc : Shape.C w cs y fp) {e : Entry} {ds : List Value} {gp : List Nat} (hd : Shape.C w ds e gp) (hw : y.wt ≤ 1048576)  :
    Calls Tryz.prog 165 #[.agg cs.toArray, .agg ds.toArray] w fun ee w' => ee = .returned (.bool (fresh y e)) ∧ St w w' [] := by
  cases hix : gC y e.run with
  | none => exact FreshI_n w hc hd hw hix
  | some i => exact FreshI_s w hc hd hw hix
theorem RunAtS_n (w : World) {y : Yard} {cs : List Value} {fp : List Nat} (hc : Shape.C w cs y fp) (id : Int) (hw : y.wt ≤ 1048576) (h : gC y id = none) :
    Calls Tryz.prog 90 #[.agg cs.toArray, I id] w fun e w' => e = .returned (I (-1)) ∧ St w w' [] := by
  have := vI w hc id hw
  rwa [qR h] at this
theorem RunAtS_s (w : World) {y : Yard} {cs : List Value} {fp : List Nat} (hc : Shape.C w cs y fp) (id : Int) (hw : y.wt ≤ 1048576) {i : Nat} (h : gC y id = some i) :
    Calls Tryz.prog 90 #[.agg cs.toArray, I id] w fun e w' => e = .returned (I (i : Int)) ∧ St w w' [] := by
  have := vI w hc id hw
  rwa [qQ h] at this
set_option maxHeartbeats 2000000 in
theorem FreshS_n (w : World) {y : Yard} {cs : List Value} {fp : List Nat} (hc : Shape.C w cs y fp) {e : Entry} {ds : List Value} {gp : List Nat} (hd : Shape.C w ds e gp) (hw : y.wt ≤ 1048576) (hix : gC y e.run = none) :
    Calls Tryz.prog 158 #[.agg cs.toArray, .agg ds.toArray] w fun ee w' => ee = .returned (.bool (fresh y e)) ∧ St w w' [] := by
  refine cF Tryz.func158 rfl Tryz.ntmps158 (by decide) (wp_seq (aA (sg (aQ (cs := cs) rfl (St.start w) ?_)))); intro b1 W2 hb3 st4
  refine sg (aQ (cs := ds) rfl st4 ?_); intro b6 W7 hb8 st9
  refine sg (aD (v := .bool false) rfl (aE (wp_seq (aA (sg (bE cC rfl rfl (st9.get 1 rfl) (Shape.len hc) (sg (aC fQ rfl ?_))))))))
  have hk11 := hd
  obtain ⟨he11, rfl, hok11⟩ := hk11
  have he11 : _ = [I e.prio, I e.seq, I e.run, I e.task] := he11
  subst he11
  refine sg (aF aJ rfl rfl (st9.get 0 rfl) (i := 2) rfl rfl (sg (aZ Tryz.func90 rfl rfl rfl ((RunAtS_n W7 (cA hc st9.below) e.run hw hix).mono ?_)))); rintro _ W12 ⟨rfl, hk13⟩; refine ⟨_, rfl, ?_⟩
  have st14 := St.call st9 hk13
  refine sg (aD (v := I (-1)) rfl (aE (wp_seq ?_)))
  rcases bd (decide (0 ≤ (-1))) with h16 | h16
  · have h16p := of_decide_eq_false h16
    refine dI [Pl.is (I (-1)), Pl.bool false, Pl.bool false, Pl.off, Pl.off, Pl.off, Pl.off, Pl.off, Pl.off, Pl.off, Pl.off, Pl.off, Pl.off, Pl.off, Pl.bool false, Pl.bool false, Pl.off, Pl.off, Pl.off, Pl.off, Pl.off, Pl.off, Pl.off, Pl.off, Pl.off, Pl.off, Pl.off, Pl.off, Pl.bool false, Pl.bool false] mix (by rfl) st14 ⟨(fun f W hst hbl hd hf => aB (v := I (-1)) ((hf 5 rfl).trans (show _ = I (-1) from rfl)) brq), (fun f W hst hbl hd hf => gT (hd 0 10 rfl rfl) rfl ⟨Below.refl _ _, congrArg Value.bool h16⟩), (fun f W hst hbl hd hf => aB (v := .bool false) (hd 1 11 rfl rfl) brq), (fun f W hst hbl hd hf => rfl), (fun f W hst hbl hd hf => rfl), (fun f W hst hbl hd hf => rfl), (fun f W hst hbl hd hf => rfl), (fun f W hst hbl hd hf => rfl), (fun f W hst hbl hd hf => rfl), (fun f W hst hbl hd hf => rfl), (fun f W hst hbl hd hf => rfl), (fun f W hst hbl hd hf => rfl), (fun f W hst hbl hd hf => rfl), (fun f W hst hbl hd hf => rfl), (fun f W hst hbl hd hf => aO (v := .bool false) (hd 2 12 rfl rfl) rfl brq), (fun f W hst hbl hd hf => aB (v := .bool false) (hd 14 24 rfl rfl) brq), (fun f W hst hbl hd hf => rfl), (fun f W hst hbl hd hf => rfl), (fun f W hst hbl hd hf => rfl), (fun f W hst hbl hd hf => rfl), (fun f W hst hbl hd hf => rfl), (fun f W hst hbl hd hf => rfl), (fun f W hst hbl hd hf => rfl), (fun f W hst hbl hd hf => rfl), (fun f W hst hbl hd hf => rfl), (fun f W hst hbl hd hf => rfl), (fun f W hst hbl hd hf => rfl), (fun f W hst hbl hd hf => rfl), (fun f W hst hbl hd hf => aO (v := .bool false) (hd 15 25 rfl rfl) rfl brq), (fun f W hst hbl hd hf => aD (v := .bool false) (hd 28 38 rfl rfl) brq), trivial⟩ ?_
    intro f17 W18 st19 hb20 hv21 hf22
    refine wp_ret ?_; repeat first|refine aH ?_|refine aI ?_
    refine aW Tryz.results158 (hv21 29 4 (by decide) rfl) ?_
    exact ⟨(congrArg (fun z => Ending.returned (.bool z)) (by unfold fresh; rw [hix])), st19.bare⟩
  · have h16p := of_decide_eq_true h16
    omega
set_option maxHeartbeats 2000000 in
theorem FreshS_s (w : World) {y : Yard} {cs : List Value} {fp : List Nat} (hc : Shape.C w cs y fp) {e : Entry} {ds : List Value} {gp : List Nat} (hd : Shape.C w ds e gp) (hw : y.wt ≤ 1048576) {i : Nat} (hix : gC y e.run = some i) :
    Calls Tryz.prog 158 #[.agg cs.toArray, .agg ds.toArray] w fun ee w' => ee = .returned (.bool (fresh y e)) ∧ St w w' [] := by
  have hil := qO hix
  have hyk := jU hil
  have hrw : y.runs[i].tasks.length ≤ y.runs[i].wt := by unfold Run.wt; omega
  refine cF Tryz.func158 rfl Tryz.ntmps158 (by decide) (wp_seq (aA (sg (aQ (cs := cs) rfl (St.start w) ?_)))); intro b1 W2 hb3 st4
  refine sg (aQ (cs := ds) rfl st4 ?_); intro b6 W7 hb8 st9
  refine sg (aD (v := .bool false) rfl (aE (wp_seq (aA (sg (bE cC rfl rfl (st9.get 1 rfl) (Shape.len hc) (sg (aC fQ rfl ?_))))))))
  have hk11 := hd
  obtain ⟨he11, rfl, hok11⟩ := hk11
  have he11 : _ = [I e.prio, I e.seq, I e.run, I e.task] := he11
  subst he11
  refine sg (aF aJ rfl rfl (st9.get 0 rfl) (i := 2) rfl rfl (sg (aZ Tryz.func90 rfl rfl rfl ((RunAtS_s W7 (cA hc st9.below) e.run hw hix).mono ?_)))); rintro _ W12 ⟨rfl, hk13⟩; refine ⟨_, rfl, ?_⟩
  have st14 := St.call st9 hk13
  refine sg (aD (v := I (i : Int)) rfl (aE (wp_seq ?_)))
  rcases bd (decide (0 ≤ (i : Int))) with h16 | h16
  · have h16p := of_decide_eq_false h16
    omega
  · have h16p := of_decide_eq_true h16
    have hk17 := hc
    obtain ⟨v17_0, v17_1, g17_0, g17_1, rfl, hok17, h17_0, h17_1, rfl⟩ := hk17
    have hia2a90 : i < y.runs.length := (by omega)
    rcases bd (inB e.task 0 (((y.runs[i]'hia2a90).tasks.length : Int) - 1)) with h20 | h20
    · have h20p := dN h20
      have hia2a90 : i < y.runs.length := (by omega)
      have hq_ := idx h17_1 (i := i) hia2a90
      obtain ⟨b21, o21, cs21, f21, hp21, hr21, hc21, hm21⟩ := hq_
      have hk22 := hc21
      obtain ⟨v22_0, v22_1, g22_0, g22_1, rfl, hok22, h22_0, h22_1, rfl⟩ := hk22
      refine dI [Pl.is (I (i : Int)), Pl.bool true, Pl.bool true, Pl.is (.pointer (some ⟨b6, 0 + 3, none⟩)), Pl.is (I e.task), Pl.is (.pointer (some ⟨b1, 0 + 3, none⟩)), Pl.is (v17_1) (Sl.yl h17_1), Pl.is (I (i : Int)), Pl.is (.pointer (some ⟨b21, o21, none⟩)), Pl.is (.pointer (some ⟨b21, o21 + 7, none⟩)), Pl.is (v22_1) (Sl.yl h22_1), Pl.is (I ((y.runs[i]'hia2a90).tasks.length : Int)), Pl.is (I (((y.runs[i]'hia2a90).tasks.length : Int) - 1)), Pl.bool (inB e.task 0 (((y.runs[i]'hia2a90).tasks.length : Int) - 1)), Pl.bool false, Pl.bool false, Pl.off, Pl.off, Pl.off, Pl.off, Pl.off, Pl.off, Pl.off, Pl.off, Pl.off, Pl.off, Pl.off, Pl.off, Pl.bool false, Pl.bool false] mix (by rfl) st14 ⟨(fun f W hst hbl hd hf => aB (v := I (i : Int)) ((hf 5 rfl).trans (show _ = I (i : Int) from rfl)) brq), (fun f W hst hbl hd hf => gT (hd 0 10 rfl rfl) rfl ⟨Below.refl _ _, congrArg Value.bool h16⟩), (fun f W hst hbl hd hf => aB (v := .bool true) (hd 1 11 rfl rfl) brq), (fun f W hst hbl hd hf => aC fH ((hf 3 rfl).trans (show _ = (.pointer (some ⟨b6, 0, none⟩) : Value) from rfl)) brq), (fun f W hst hbl hd hf => aF aJ rfl (hd 3 13 rfl rfl) (hst.get 0 rfl) (i := 3) rfl rfl brq), (fun f W hst hbl hd hf => aC bW ((hf 2 rfl).trans (show _ = (.pointer (some ⟨b1, 0, none⟩) : Value) from rfl)) brq), (fun f W hst hbl hd hf => aF cV rfl (hd 5 15 rfl rfl) (hst.get 1 rfl) (i := 3) rfl rfl brq), (fun f W hst hbl hd hf => aB (v := I (i : Int)) ((hf 5 rfl).trans (show _ = I (i : Int) from rfl)) brq), (fun f W hst hbl hd hf => aG bV (hd 6 16 rfl rfl) hp21 (hd 7 17 rfl rfl) rfl brq), (fun f W hst hbl hd hf => aC bJ (hd 8 18 rfl rfl) brq), (fun f W hst hbl hd hf => aK bM rfl (hd 9 19 rfl rfl) hr21 hst.below (i := 7) rfl rfl brq), (fun f W hst hbl hd hf => aV bD (hd 10 20 rfl rfl) h22_1 brq), (fun f W hst hbl hd hf => fI (hd 11 21 rfl rfl) rfl (by (simp only [I64] at *; omega)) brq), (fun f W hst hbl hd hf => bS Tryz.func43 rfl (hd 4 14 rfl rfl) rfl (hd 12 22 rfl rfl) ((fK W e.task 0 (((y.runs[i]'hia2a90).tasks.length : Int) - 1)).mono (by rintro e W2 ⟨rfl, hk⟩; exact ⟨_, rfl, hk.below, rfl⟩))), (fun f W hst hbl hd hf => aN (v := .bool (inB e.task 0 (((y.runs[i]'hia2a90).tasks.length : Int) - 1))) (hd 2 12 rfl rfl) (hd 13 23 rfl rfl) ⟨Below.refl _ _, congrArg Value.bool h20⟩), (fun f W hst hbl hd hf => aB (v := .bool false) (hd 14 24 rfl rfl) brq), (fun f W hst hbl hd hf => rfl), (fun f W hst hbl hd hf => rfl), (fun f W hst hbl hd hf => rfl), (fun f W hst hbl hd hf => rfl), (fun f W hst hbl hd hf => rfl), (fun f W hst hbl hd hf => rfl), (fun f W hst hbl hd hf => rfl), (fun f W hst hbl hd hf => rfl), (fun f W hst hbl hd hf => rfl), (fun f W hst hbl hd hf => rfl), (fun f W hst hbl hd hf => rfl), (fun f W hst hbl hd hf => rfl), (fun f W hst hbl hd hf => aO (v := .bool false) (hd 15 25 rfl rfl) rfl brq), (fun f W hst hbl hd hf => aD (v := .bool false) (hd 28 38 rfl rfl) brq), trivial⟩ ?_
      intro f23 W24 st25 hb26 hv27 hf28
      refine wp_ret ?_; repeat first|refine aH ?_|refine aI ?_
      refine aW Tryz.results158 (hv27 29 4 (by decide) rfl) ?_
      exact ⟨(congrArg (fun z => Ending.returned (.bool z)) (by unfold fresh; rw [hix]; simp only [List.getElem?_eq_getElem hil, h20, Bool.false_and])), st25.bare⟩
    · have h20p := inB_iff'.1 h20
      have hia2a90 : i < y.runs.length := (by omega)
      have hq_ := idx h17_1 (i := i) hia2a90
      obtain ⟨b29, o29, cs29, f29, hp29, hr29, hc29, hm29⟩ := hq_
      have hk30 := hc29
      obtain ⟨v30_0, v30_1, g30_0, g30_1, rfl, hok30, h30_0, h30_1, rfl⟩ := hk30
      have hif34c4 : (e.task).toNat < (y.runs[i]'hia2a90).tasks.length := (by omega)
      have hq_ := idx h30_1 (i := (e.task).toNat) hif34c4
      obtain ⟨b31, o31, cs31, f31, hp31, hr31, hc31, hm31⟩ := hq_
      have hk32 := hc31
      obtain ⟨he32, rfl, hok32⟩ := hk32
      have he32 : _ = [I ((y.runs[i]'hia2a90).tasks[(e.task).toNat]'hif34c4).state, I ((y.runs[i]'hia2a90).tasks[(e.task).toNat]'hif34c4).need, I ((y.runs[i]'hia2a90).tasks[(e.task).toNat]'hif34c4).try_, I ((y.runs[i]'hia2a90).tasks[(e.task).toNat]'hif34c4).until_] := he32
      subst he32
      refine dI [Pl.is (I (i : Int)), Pl.bool true, Pl.bool true, Pl.is (.pointer (some ⟨b6, 0 + 3, none⟩)), Pl.is (I e.task), Pl.is (.pointer (some ⟨b1, 0 + 3, none⟩)), Pl.is (v17_1) (Sl.yl h17_1), Pl.is (I (i : Int)), Pl.is (.pointer (some ⟨b29, o29, none⟩)), Pl.is (.pointer (some ⟨b29, o29 + 7, none⟩)), Pl.is (v30_1) (Sl.yl h30_1), Pl.is (I ((y.runs[i]'hia2a90).tasks.length : Int)), Pl.is (I (((y.runs[i]'hia2a90).tasks.length : Int) - 1)), Pl.bool (inB e.task 0 (((y.runs[i]'hia2a90).tasks.length : Int) - 1)), Pl.bool true, Pl.bool true, Pl.is (.pointer (some ⟨b1, 0 + 3, none⟩)), Pl.is (v17_1) (Sl.yl h17_1), Pl.is (I (i : Int)), Pl.is (.pointer (some ⟨b29, o29, none⟩)), Pl.is (.pointer (some ⟨b29, o29 + 7, none⟩)), Pl.is (v30_1) (Sl.yl h30_1), Pl.is (.pointer (some ⟨b6, 0 + 3, none⟩)), Pl.is (I e.task), Pl.is (.pointer (some ⟨b31, o31, none⟩)), Pl.is (.pointer (some ⟨b31, o31 + 0, none⟩)), Pl.is (I ((y.runs[i]'hia2a90).tasks[(e.task).toNat]'hif34c4).state), Pl.bool (decide (((y.runs[i]'hia2a90).tasks[(e.task).toNat]'hif34c4).state = 2)), Pl.bool (decide (((y.runs[i]'hia2a90).tasks[(e.task).toNat]'hif34c4).state = 2)), Pl.bool (decide (((y.runs[i]'hia2a90).tasks[(e.task).toNat]'hif34c4).state = 2))] mix (by rfl) st14 ⟨(fun f W hst hbl hd hf => aB (v := I (i : Int)) ((hf 5 rfl).trans (show _ = I (i : Int) from rfl)) brq), (fun f W hst hbl hd hf => gT (hd 0 10 rfl rfl) rfl ⟨Below.refl _ _, congrArg Value.bool h16⟩), (fun f W hst hbl hd hf => aB (v := .bool true) (hd 1 11 rfl rfl) brq), (fun f W hst hbl hd hf => aC fH ((hf 3 rfl).trans (show _ = (.pointer (some ⟨b6, 0, none⟩) : Value) from rfl)) brq), (fun f W hst hbl hd hf => aF aJ rfl (hd 3 13 rfl rfl) (hst.get 0 rfl) (i := 3) rfl rfl brq), (fun f W hst hbl hd hf => aC bW ((hf 2 rfl).trans (show _ = (.pointer (some ⟨b1, 0, none⟩) : Value) from rfl)) brq), (fun f W hst hbl hd hf => aF cV rfl (hd 5 15 rfl rfl) (hst.get 1 rfl) (i := 3) rfl rfl brq), (fun f W hst hbl hd hf => aB (v := I (i : Int)) ((hf 5 rfl).trans (show _ = I (i : Int) from rfl)) brq), (fun f W hst hbl hd hf => aG bV (hd 6 16 rfl rfl) hp29 (hd 7 17 rfl rfl) rfl brq), (fun f W hst hbl hd hf => aC bJ (hd 8 18 rfl rfl) brq), (fun f W hst hbl hd hf => aK bM rfl (hd 9 19 rfl rfl) hr29 hst.below (i := 7) rfl rfl brq), (fun f W hst hbl hd hf => aV bD (hd 10 20 rfl rfl) h30_1 brq), (fun f W hst hbl hd hf => fI (hd 11 21 rfl rfl) rfl (by (simp only [I64] at *; omega)) brq), (fun f W hst hbl hd hf => bS Tryz.func43 rfl (hd 4 14 rfl rfl) rfl (hd 12 22 rfl rfl) ((fK W e.task 0 (((y.runs[i]'hia2a90).tasks.length : Int) - 1)).mono (by rintro e W2 ⟨rfl, hk⟩; exact ⟨_, rfl, hk.below, rfl⟩))), (fun f W hst hbl hd hf => aN (v := .bool (inB e.task 0 (((y.runs[i]'hia2a90).tasks.length : Int) - 1))) (hd 2 12 rfl rfl) (hd 13 23 rfl rfl) ⟨Below.refl _ _, congrArg Value.bool h20⟩), (fun f W hst hbl hd hf => aB (v := .bool true) (hd 14 24 rfl rfl) brq), (fun f W hst hbl hd hf => aC bW ((hf 2 rfl).trans (show _ = (.pointer (some ⟨b1, 0, none⟩) : Value) from rfl)) brq), (fun f W hst hbl hd hf => aF cV rfl (hd 16 26 rfl rfl) (hst.get 1 rfl) (i := 3) rfl rfl brq), (fun f W hst hbl hd hf => aB (v := I (i : Int)) ((hf 5 rfl).trans (show _ = I (i : Int) from rfl)) brq), (fun f W hst hbl hd hf => aG bV (hd 17 27 rfl rfl) hp29 (hd 18 28 rfl rfl) rfl brq), (fun f W hst hbl hd hf => aC bJ (hd 19 29 rfl rfl) brq), (fun f W hst hbl hd hf => aK bM rfl (hd 20 30 rfl rfl) hr29 hst.below (i := 7) rfl rfl brq), (fun f W hst hbl hd hf => aC fH ((hf 3 rfl).trans (show _ = (.pointer (some ⟨b6, 0, none⟩) : Value) from rfl)) brq), (fun f W hst hbl hd hf => aF aJ rfl (hd 22 32 rfl rfl) (hst.get 0 rfl) (i := 3) rfl rfl brq), (fun f W hst hbl hd hf => aG bD (hd 21 31 rfl rfl) hp31 (hd 23 33 rfl rfl) (by omega) brq), (fun f W hst hbl hd hf => aC bP (hd 24 34 rfl rfl) brq), (fun f W hst hbl hd hf => aK aJ rfl (hd 25 35 rfl rfl) hr31 hst.below (i := 0) rfl rfl brq), (fun f W hst hbl hd hf => bA (hd 26 36 rfl rfl) rfl brq), (fun f W hst hbl hd hf => aN (v := .bool (decide (((y.runs[i]'hia2a90).tasks[(e.task).toNat]'hif34c4).state = 2))) (hd 15 25 rfl rfl) (hd 27 37 rfl rfl) brq), (fun f W hst hbl hd hf => aD (v := .bool (decide (((y.runs[i]'hia2a90).tasks[(e.task).toNat]'hif34c4).state = 2))) (hd 28 38 rfl rfl) brq), trivial⟩ ?_
      intro f33 W34 st35 hb36 hv37 hf38
      refine wp_ret ?_; repeat first|refine aH ?_|refine aI ?_
      refine aW Tryz.results158 (hv37 29 4 (by decide) rfl) ?_
      exact ⟨(congrArg (fun z => Ending.returned (.bool z)) (by unfold fresh; rw [hix]; simp only [List.getElem?_eq_getElem hil, h20, Bool.true_and]; rw [List.getElem?_eq_getElem (by omega)])), st35.bare⟩
theorem FreshS (w : World) {y : Yard} {cs : List Value} {fp : List Nat} (hc : Shape.C w cs y fp) {e : Entry} {ds : List Value} {gp : List Nat} (hd : Shape.C w ds e gp) (hw : y.wt ≤ 1048576)  :
    Calls Tryz.prog 158 #[.agg cs.toArray, .agg ds.toArray] w fun ee w' => ee = .returned (.bool (fresh y e)) ∧ St w w' [] := by
  cases hix : gC y e.run with
  | none => exact FreshS_n w hc hd hw hix
  | some i => exact FreshS_s w hc hd hw hix
set_option maxHeartbeats 2000000 in
theorem vB (w : World) {y : Yard} {cs : List Value} {fp : List Nat} (hc : Shape.C w cs y fp)  (hw : y.wt ≤ 1048576) :
    Calls Tryz.prog 96 #[.agg cs.toArray] w fun e w' => ∃ (v : Value) (fp' : List Nat), e = .returned v ∧ St w w' [Res.own v y.shelf.flatten fp'] := by
  have hys : y.shelf.length ≤ y.wt := by unfold Yard.wt wtL; omega
  refine dU Tryz.func96 rfl Tryz.ntmps96 (by decide) (wp_seq (aA (sg (aQ (cs := cs) rfl (St.start w) ?_)))); intro b1 W2 hb3 st4
  refine sg (aD (v := .slice none 0 0) rfl (aE (wp_seq (aA (sg (aD (v := .slice none 0 0) rfl (aE (wp_seq (wp_seq (aA (sg (aC dG rfl ?_))))))))))))
  have hk6 := hc
  obtain ⟨v6_0, v6_1, g6_0, g6_1, rfl, hok6, h6_0, h6_1, rfl⟩ := hk6
  refine sg (aF dE rfl rfl (st4.get 0 rfl) (i := 2) rfl rfl (sg (aV cM rfl h6_0 (sg (aB (v := I 0) rfl (aE (wp_block ?_)))))))
  have st8 := st4.row_nil (α := Entry) 131
  refine bH (fun (m : Nat) (f : Nat → Value) (W : World) => ∃ (k : Nat) (v7 : Value), k ≤ y.shelf.length ∧ m = y.shelf.length - k ∧ f 3 = v7 ∧ f 7 = v6_0 ∧ f 8 = I (y.shelf.length : Int) ∧ f 9 = I (k : Int) ∧ St w W ([Res.row (α := Entry) 131 v7 (y.shelf.take k).flatten [], Res.bx b1 [I y.now, I y.seq, v6_0, v6_1] 34])) (y.shelf.length - 0) ?_ ?_
  · exact ⟨0, (.slice none 0 0), (by first | omega | simp), rfl, rfl, rfl, rfl, rfl, st8⟩
  intro m10 f11 W12 hJ13
  obtain ⟨k, v7, hcd15_0, rfl, hs15_3, hs15_7, hs15_8, hs15_9, st14⟩ := hJ13
  have hfl := oS y (k + 1)
  refine wp_seq (aA (sg (aY hs15_9 hs15_8 (aE (wp_seq (aR rfl (fun h16 => ?_) (fun h16 => ?_)))))))
  · have h16p := of_decide_eq_true h16
    refine wp_skip (wp_seq (wp_block (wp_seq (aA ?_))))
    have hi019db : k < y.shelf.length := (by omega)
    have hq_ := idx h6_0 (i := k) hi019db
    obtain ⟨b17, o17, cs17, f17, hp17, hr17, hc17, hm17⟩ := hq_
    have hk17 := hc17
    obtain ⟨v18, rfl, h19⟩ := hk17
    refine sg (aG cM hs15_7 hp17 hs15_9 rfl (sg (aK fD rfl rfl hr17 st14.below (i := 0) rfl rfl (sg (aD (v := v18) rfl (aE (aA (sg (aB (v := v7) hs15_3 (sg (aB (v := v18) rfl ?_)))))))))))
    have hfl2 := nC (xss := y.shelf) (k := k) (by omega)
    rw [hfl2, List.length_append] at hfl
    refine sg (eJ gQ dX rfl rfl h19 st14.below st14 (by unfold maxLen; omega) (by omega) ?_); intro v20 W21 st22
    refine sg (aD (v := v20) rfl (aE (aA (sg (aP hs15_9 rfl (by (simp only [I64] at *; omega)) (sg (aB (v := I ((k : Int) + 1)) rfl (aE ?_))))))))
    exact ⟨_, y.shelf.length - (k + 1), (by omega), rfl, k + 1, v20, (by omega), rfl, rfl, hs15_7, hs15_8, rfl, (by rw [nC (by omega)]; exact st22)⟩
  · have h16p := of_decide_eq_false h16
    refine wp_exit (wp_seq (aA (sg (aB (v := v7) hs15_3 (sg (aD (v := v7) rfl (aE (wp_ret ?_)))))))); repeat first|refine aH ?_|refine aI ?_
    refine aW Tryz.results96 rfl ?_
    obtain rfl : k = y.shelf.length := by omega
    rw [List.take_length] at st14
    have hq_ := st14.shut
    obtain ⟨fpz, stz⟩ := hq_
    exact ⟨_, fpz, rfl, stz.only 0 rfl⟩
set_option maxHeartbeats 2000000 in
theorem vA (w : World) {y : Yard} {cs : List Value} {fp : List Nat} (hc : Shape.C w cs y fp)  (hw : y.wt ≤ 1048576) :
    Calls Tryz.prog 91 #[.agg cs.toArray] w fun e w' => ∃ (v : Value) (fp' : List Nat), e = .returned v ∧ St w w' [Res.own v y.shelf.flatten fp'] := by
  have hys : y.shelf.length ≤ y.wt := by unfold Yard.wt wtL; omega
  refine dU Tryz.func91 rfl Tryz.ntmps91 (by decide) (wp_seq (aA (sg (aQ (cs := cs) rfl (St.start w) ?_)))); intro b1 W2 hb3 st4
  refine sg (aD (v := .slice none 0 0) rfl (aE (wp_seq (aA (sg (bR (cs := []) (e := 131) gK (eQ dX _) st4 ?_)))))); intro b6 W7 hb8 st9
  have st9 := st9.row_empty (α := Entry)
  refine sg (aD (v := (.slice (some ⟨b6, 0, none⟩) 0 0)) rfl (aE (wp_seq (wp_seq (aA (sg (aD (v := I 0) rfl (aE (wp_block (bH (fun (m : Nat) (f : Nat → Value) (W : World) => ∃ (k : Nat) (v11 : Value), k ≤ y.shelf.length ∧ m = y.shelf.length - k ∧ f 1 = .pointer (some ⟨b1, 0, none⟩) ∧ f 3 = v11 ∧ f 4 = I (k : Int) ∧ St w W ([Res.row (α := Entry) 131 v11 (y.shelf.take k).flatten [], Res.bx b1 cs 34])) (y.shelf.length - 0) ?_ ?_))))))))))
  · exact ⟨0, (.slice (some ⟨b6, 0, none⟩) 0 0), (by first | omega | simp), rfl, rfl, rfl, rfl, st9⟩
  intro m12 f13 W14 hJ15
  obtain ⟨k, v11, hcd17_0, rfl, hs17_1, hs17_3, hs17_4, st16⟩ := hJ15
  have hfl := oS y (k + 1)
  refine wp_seq (wp_seq (aA (sg (aB (v := I (k : Int)) hs17_4 (sg (aC dG hs17_1 ?_))))))
  have hk18 := hc
  obtain ⟨v18_0, v18_1, g18_0, g18_1, rfl, hok18, h18_0, h18_1, rfl⟩ := hk18
  refine sg (aF dE rfl rfl (st16.get 1 rfl) (i := 2) rfl rfl (sg (aV cM rfl h18_0 (sg (aY rfl rfl (aE (aR rfl (fun h19 => ?_) (fun h19 => ?_))))))))
  · have h19p := of_decide_eq_true h19
    refine wp_skip (wp_seq (wp_block (aA (sg (aB (v := v11) hs17_3 (sg (aC dG hs17_1 (sg (aF dE rfl rfl (st16.get 1 rfl) (i := 2) rfl rfl (sg (aB (v := I (k : Int)) hs17_4 ?_)))))))))))
    have hi019db : k < y.shelf.length := (by omega)
    have hq_ := idx h18_0 (i := k) hi019db
    obtain ⟨b20, o20, cs20, f20, hp20, hr20, hc20, hm20⟩ := hq_
    have hk20 := hc20
    obtain ⟨v21, rfl, h22⟩ := hk20
    refine sg (aG cM rfl hp20 rfl rfl (sg (aK fD rfl rfl hr20 st16.below (i := 0) rfl rfl ?_)))
    have hfl2 := nC (xss := y.shelf) (k := k) (by omega)
    rw [hfl2, List.length_append] at hfl
    refine sg (eJ gQ dX rfl rfl h22 st16.below st16 (by unfold maxLen; omega) (by omega) ?_); intro v23 W24 st25
    refine sg (aD (v := v23) rfl (aE (aA (sg (aB (v := I (k : Int)) hs17_4 (sg (aP rfl rfl (by (simp only [I64] at *; omega)) (sg (aD (v := I ((k : Int) + 1)) rfl (aE ?_))))))))))
    exact ⟨_, y.shelf.length - (k + 1), (by omega), rfl, k + 1, v23, (by omega), rfl, hs17_1, rfl, rfl, (by rw [nC (by omega)]; exact st25)⟩
  · have h19p := of_decide_eq_false h19
    refine wp_exit (wp_seq (aA (sg (aB (v := v11) hs17_3 (sg (aD (v := v11) rfl (aE (wp_ret ?_)))))))); repeat first|refine aH ?_|refine aI ?_
    refine aW Tryz.results91 rfl ?_
    obtain rfl : k = y.shelf.length := by omega
    rw [List.take_length] at st16
    have hq_ := st16.shut
    obtain ⟨fpz, stz⟩ := hq_
    exact ⟨_, fpz, rfl, stz.only 0 rfl⟩
end Go.Proofs.YtchnllpegfbleaaGreat
