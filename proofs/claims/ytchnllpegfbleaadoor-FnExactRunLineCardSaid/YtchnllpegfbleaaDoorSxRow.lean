/-
  Slices that a call has made itself and appends to.
-/
import Derived.Test.YtchnllpegfbleaaDoorSxSt
namespace Go.Proofs.YtchnllpegfbleaaDoor
set_option linter.unusedSimpArgs false
set_option linter.unusedVariables false
open Go.RowKit

/-- Something of a call's own that a value stands for. -/
def Res.own {α : Type} [Shape α] [Agg α] (v : Value) (x : α) (fp : List Nat) : Res where
  fp := fp
  holds := fun W => V W v x fp ∧ ∀ b ∈ fp, Wr W b
  loc := fun hs hb ⟨⟨cs, h1, h2⟩, h3⟩ => ⟨⟨cs, h1, Shape.loc hs (fun b hm o => cell_of_heap (hb b hm) o) h2⟩, fun b hm => (h3 b hm).loc (hb b hm)⟩
  wr := fun h => h.2
theorem own_V {α : Type} [Shape α] [Agg α] {v : Value} {x : α} {fp : List Nat} {W : World} (h : (Res.own v x fp).holds W) : V W v x fp := h.1
theorem own_Sl {α : Type} [Shape α] {v : Value} {x : List α} {fp : List Nat} {W : World} (h : (Res.own v x fp).holds W) : Sl W v x fp := V_sl h.1
theorem own_C {α : Type} [Shape α] [Agg α] {cs : List Value} {x : α} {fp : List Nat} {W : World} (h : (Res.own (.agg cs.toArray) x fp).holds W) (ha : Agg.agg α = true) : Shape.C W cs x fp := by
  obtain ⟨ds, h1, h2⟩ := h.1
  simp only [val, ha, cond_true] at h1
  have : cs = ds := by injection h1 with h1; simpa using h1
  subst this
  exact h2

section
variable {α : Type} [Shape α]
/-- Cells that stand for elements, one behind the other. -/
def Elems (W : World) : List Value → List α → List Nat → Prop
  | cells, [], fp => cells = [] ∧ fp = []
  | cells, x :: xs, fp => ∃ cs rest f1 f2, cells = cs ++ rest ∧ Shape.C W cs x f1 ∧ Elems W rest xs f2 ∧ fp = f1 ++ f2
theorem Elems.loc {W W' : World} (hs : W.heap.size ≤ W'.heap.size) : ∀ {xs : List α} {cells : List Value} {fp : List Nat}, (∀ b ∈ fp, W'.heap[b]? = W.heap[b]?) → Elems W cells xs fp → Elems W' cells xs fp
  | [], _, _, _, h => h
  | x :: xs, _, _, hb, ⟨cs, rest, f1, f2, h1, h2, h3, h4⟩ => by
    subst h4
    exact ⟨cs, rest, f1, f2, h1, Shape.loc hs (fun b hm o => cell_of_heap (hb b (by simp [hm])) o) h2, Elems.loc hs (fun b hm => hb b (by simp [hm])) h3, rfl⟩
theorem Elems.len {W : World} : ∀ {xs : List α} {cells : List Value} {fp : List Nat}, Elems W cells xs fp → cells.length = xs.length * Shape.size α
  | [], _, _, ⟨h, _⟩ => by simp [h]
  | x :: xs, _, _, ⟨cs, rest, f1, f2, h1, h2, h3, h4⟩ => by
    rw [h1, List.length_append, Shape.len h2, Elems.len h3, List.length_cons, Nat.add_mul]; omega
theorem Elems.one {W : World} : ∀ {xs : List α} {cells : List Value} {fp : List Nat}, Elems W cells xs fp → ∀ v ∈ cells, v.oneCell' = true
  | [], _, _, ⟨h, _⟩, v, hv => by simp [h] at hv
  | x :: xs, _, _, ⟨cs, rest, f1, f2, h1, h2, h3, h4⟩, v, hv => by
    rw [h1] at hv
    rcases List.mem_append.1 hv with hv | hv
    · exact Shape.one h2 v hv
    · exact Elems.one h3 v hv
theorem Elems.append {W : World} : ∀ {xs : List α} {cells : List Value} {fp : List Nat} {ys : List α} {cells' : List Value} {fp' : List Nat}, Elems W cells xs fp → Elems W cells' ys fp' → Elems W (cells ++ cells') (xs ++ ys) (fp ++ fp')
  | [], _, _, _, _, _, ⟨h, h0⟩, k => by subst h h0; exact k
  | x :: xs, _, _, _, _, _, ⟨cs, rest, f1, f2, h1, h2, h3, h4⟩, k => by
    subst h1 h4
    exact ⟨cs, rest ++ _, f1, f2 ++ _, by simp, h2, Elems.append h3 k, by simp⟩
theorem Elems.single {W : World} {x : α} {cs : List Value} {fp : List Nat} (h : Shape.C W cs x fp) : Elems W cs [x] fp := ⟨cs, [], fp, [], by simp, h, ⟨rfl, rfl⟩, by simp⟩
theorem Elems.at {W : World} {b : Nat} : ∀ {xs : List α} {cells : List Value} {fp : List Nat} (o : Nat), Elems W cells xs fp → W.rangeAt b o cells → SlAt W b o xs fp
  | [], _, _, _, ⟨_, h⟩, _ => h
  | x :: xs, _, _, o, ⟨cs, rest, f1, f2, h1, h2, h3, h4⟩, hr => by
    subst h1
    refine ⟨cs, f1, f2, fun j v hj => hr j v ?_, h2, Elems.at (o + Shape.size α) h3 (fun j v hj => ?_), h4⟩
    · rw [List.getElem?_append_left (List.getElem?_eq_some_iff.1 hj).1]; exact hj
    · rw [Nat.add_assoc]
      refine hr _ v ?_
      rw [← Shape.len h2, List.getElem?_append_right (by omega)]
      simpa using hj
theorem Elems.of_at {W : World} {b : Nat} : ∀ {xs : List α} {fp : List Nat} (o : Nat), SlAt W b o xs fp → ∃ cells, Elems W cells xs fp ∧ W.rangeAt b o cells
  | [], _, _, h => ⟨[], ⟨rfl, h⟩, fun j v hj => by simp at hj⟩
  | x :: xs, _, o, ⟨cs, f1, f2, hr, hc, ht, hf⟩ => by
    obtain ⟨rest, h1, h2⟩ := Elems.of_at (o + Shape.size α) ht
    refine ⟨cs ++ rest, ⟨cs, rest, f1, f2, rfl, hc, h1, hf⟩, fun j v hj => ?_⟩
    by_cases hl : j < cs.length
    · rw [List.getElem?_append_left hl] at hj
      exact hr j v hj
    · rw [List.getElem?_append_right (by omega)] at hj
      have := h2 (j - cs.length) v hj
      rw [Shape.len hc] at this
      rw [← this]
      congr 2
      have := Shape.len hc
      omega

/-- A slice that lies at the head of a row of the call's own. -/
def Res.row (e : TypeId) (v : Value) (xs : List α) (fe : List Nat) : Res where
  fp := v.ownBlock.toList ++ fe
  holds := fun W => (∃ cells, W.ownsRow 0 e (Shape.size α) v xs.length cells ∧ Elems W cells xs fe) ∧ ∀ b ∈ fe, Wr W b
  loc := by
    rintro W W' hs hb ⟨⟨cells, ⟨h1, h2⟩, h3⟩, h4⟩
    refine ⟨⟨cells, ⟨h1, ?_⟩, h3.loc hs (fun b hm => hb b (by simp [hm]))⟩, fun b hm => (h4 b hm).loc (hb b (by simp [hm]))⟩
    rcases h2 with h2 | ⟨g, cap, cur, rfl, h5, h6, r⟩
    · exact .inl h2
    · exact .inr ⟨g, cap, cur, rfl, h5, by rw [hb g (by simp [Value.ownBlock])]; exact h6, r⟩
  wr := by
    rintro W ⟨⟨cells, ⟨h1, h2⟩, h3⟩, h4⟩ b hb
    rcases List.mem_append.1 hb with hb | hb
    · rcases h2 with ⟨rfl, _⟩ | ⟨g, cap, cur, rfl, h5, h6, r⟩
      · simp [Value.ownBlock] at hb
      · simp [Value.ownBlock] at hb; subst hb; exact ⟨_, _, h6⟩
    · exact h4 b hb
theorem row_nil (W : World) (e : TypeId) : (Res.row (α := α) e (.slice none 0 0) [] []).holds W := ⟨⟨[], World.ownsRow_nil _ _ _ _, rfl, rfl⟩, by simp⟩
theorem St.row_nil {w0 W : World} {rs : List Res} (h : St w0 W rs) (e : TypeId) : St w0 W (Res.row (α := α) e (.slice none 0 0) [] [] :: rs) :=
  ⟨h.below, by simpa [Res.row, Value.ownBlock] using h.nodup, fun r hr => by
    rcases List.mem_cons.1 hr with rfl | hr
    · simp [Res.row, Value.ownBlock]
    · exact h.fresh r hr, fun r hr => by
    rcases List.mem_cons.1 hr with rfl | hr
    · exact Go.Proofs.YtchnllpegfbleaaDoor.row_nil W e
    · exact h.holds r hr⟩
/-- A literal without elements. -/
theorem row_empty {W : World} {e : TypeId} {b : Nat} (h : (Res.bx b [] e).holds W) : (Res.row (α := α) e (.slice (some ⟨b, 0, none⟩) 0 0) [] []).holds W :=
  ⟨⟨[], ⟨by simp, .inr ⟨b, 0, #[], rfl, Nat.zero_le _, h, Nat.le_refl _, by decide, by simp, by simp⟩⟩, rfl, rfl⟩, by simp⟩
theorem St.row_empty {w0 W : World} {rs : List Res} {e : TypeId} {b : Nat} (h : St w0 W (Res.bx b [] e :: rs)) : St w0 W (Res.row (α := α) e (.slice (some ⟨b, 0, none⟩) 0 0) [] [] :: rs) :=
  h.turn rfl rfl rfl (Nat.le_refl _) (fun _ _ _ => rfl) (Go.Proofs.YtchnllpegfbleaaDoor.row_empty (h.get 0 rfl)) (by simp [Res.row, Value.ownBlock]) (fun b hb => .inl (by simpa [Res.row, Res.bx, Value.ownBlock] using hb))
theorem row_Sl {W : World} {e : TypeId} {v : Value} {xs : List α} {fe : List Nat} (h : (Res.row e v xs fe).holds W) : Sl W v xs (if xs = [] then [] else v.ownBlock.toList ++ fe) := by
  obtain ⟨⟨cells, ho, he⟩, _⟩ := h
  by_cases hx : xs = []
  · rw [if_pos hx]
    subst hx
    rcases ho.2 with ⟨rfl, _⟩ | ⟨g, cap, cur, rfl, _, _, h1, h2, _⟩
    · exact ⟨none, 0, rfl, Nat.le_refl _, by omega, .inl ⟨rfl, rfl⟩⟩
    · exact ⟨_, cap, rfl, h1, by unfold maxLen at h2; omega, .inl ⟨rfl, rfl⟩⟩
  · rw [if_neg hx]
    have hlen : 0 < xs.length := List.length_pos_iff.2 hx
    rcases ho.2 with ⟨_, h0⟩ | ⟨g, cap, cur, rfl, _, hg, h1, h2, _⟩
    · omega
    · refine ⟨_, cap, rfl, h1, by unfold maxLen at h2; omega, .inr ⟨g, 0, fe, hx, rfl, rfl, (Array.getElem?_eq_some_iff.1 hg).1, he.at 0 ?_⟩⟩
      intro j u hj
      have := ho.cells rfl j u hj
      rw [Addr.add_mid] at this
      exact this
/-- Nothing more is appended. -/
theorem St.shut {w0 W : World} {rs : List Res} {e : TypeId} {v : Value} {xs : List α} {fe : List Nat} (h : St w0 W (Res.row e v xs fe :: rs)) : ∃ fp, St w0 W (Res.own v xs fp :: rs) := by
  have hr := h.get 0 rfl
  have hs := row_Sl hr
  have hnd := h.nodup
  rw [List.flatMap_cons, List.nodup_append] at hnd
  refine ⟨_, h.turn (r' := Res.own v xs (if xs = [] then [] else v.ownBlock.toList ++ fe)) rfl rfl rfl (Nat.le_refl _) (fun _ _ _ => rfl) ⟨hs.v, ?_⟩ ?_ ?_⟩
  · intro b hb
    split at hb
    · simp at hb
    · exact (Res.row e v xs fe).wr hr b hb
  · show (if xs = [] then [] else v.ownBlock.toList ++ fe).Nodup
    split
    · simp
    · exact hnd.1
  · intro b hb
    refine .inl ?_
    have hb : b ∈ (if xs = [] then [] else v.ownBlock.toList ++ fe) := hb
    split at hb
    · simp at hb
    · exact hb
end

/-- Slices of type t, of elements of type e, which are α; so many bytes each. -/
structure ApOk (P : Program) (t e : TypeId) (α : Type) [Shape α] (bytes : Nat) : Prop where
  desc : P.underlying t = some (.slice e)
  info : ∃ i z, P.info? e = some i ∧ i.zero = some z ∧ i.size = Shape.size α ∧ i.bytes = bytes ∧ z.cells.size = Shape.size α
  pos : 0 < Shape.size α
theorem apOk {P : Program} {t e : TypeId} {α : Type} [Shape α] {bytes : Nat} (h1 : P.underlying t = some (.slice e)) (h2 : (P.info? e).bind (fun i => i.zero.map (fun z => (i.size, i.bytes, z.cells.size))) = some (Shape.size α, bytes, Shape.size α)) (h3 : 0 < Shape.size α) : ApOk P t e α bytes := by
  refine ⟨h1, ?_, h3⟩
  cases hq : P.info? e with
  | none => simp [hq] at h2
  | some i =>
    cases hz : i.zero with
    | none => simp [hq, hz] at h2
    | some z =>
      simp [hq, hz] at h2
      exact ⟨i, z, rfl, hz, h2.1, h2.2.1, h2.2.2⟩

section
variable {P : Program} {n : Nat} {f : Nat → Value} {W w0 : World} {rs : List Res} {Q : Exit → Act → World → Prop} {K : Value → World → Prop}
  {d : Option Tmp} {ty : TypeId} {pos : String} {af : Array Edge} {g : Option (Nat × Bool)} {α : Type} [Shape α]

/-- Where the row lies behind an append: where it lay, or in a new block. -/
theorem append_block {base : Nat} (t ty e : TypeId) (i : TypeInfo) (z : Value) (ht : P.underlying t = some (.slice e)) (hi : P.info? e = some i) (hz : i.zero = some z)
    (hzs : z.cells.size = i.size) (hsz : 0 < i.size) {v : Value} {n : Nat} {xs : List Value} (hown : W.ownsRow 0 e i.size v n xs)
    (a : Addr) (m c : Nat) (news : List Value) (hl : news.length = m * i.size) (hnews : ∀ j u, news[j]? = some u → W.cell? (a.add j) = some u) (h1 : ∀ u ∈ news, u.oneCell' = true)
    (h63 : n + m ≤ maxLen) (hbytes : (n + m) * i.bytes ≤ 140737488355328) {v' : Value} {W' : World} (hr : (Builtin.append_ #[t, t] ty #[v, .slice (some a) m c]).run P W = .ok v' W') :
    ∀ b, v'.ownBlock = some b → v.ownBlock = some b ∨ W.heap.size ≤ b := by
  have hsmall : n + m ≤ 9223372036854775807 := by simp only [maxLen] at h63; omega
  rcases hown.2 with ⟨rfl, rfl⟩ | ⟨g, cap, cur, rfl, hbg, hg, hnc, hcm, hcs, htake⟩
  · have ho : W.ownsRow W.heap.size e i.size (.slice none 0 0) 0 xs := ⟨hown.1, .inl ⟨rfl, rfl⟩⟩
    obtain ⟨v2, w2, hr2, ho2, _, _⟩ := run_append_own (P := P) W W.heap.size t ty e i z i.size i.bytes ht hi hz rfl rfl hzs hsz _ 0 xs ho a m c news hl hnews h1 h63 hbytes (Nat.le_refl _)
    rw [hr] at hr2
    injection hr2 with e1 e2
    subst e1
    intro b hb
    exact .inr (ho2.lt b hb).1
  · by_cases hroom : n + m ≤ cap
    · have hfit : n * i.size + news.length ≤ cur.size := by rw [hl, hcs, ← Nat.add_mul]; exact Nat.mul_le_mul_right _ hroom
      have hr2 := run_append_room (P := P) W t ty e i ht hi g n cap cur hg a m c news hl hnews h1 hroom hfit
      rw [hr] at hr2
      injection hr2 with e1 e2
      subst e1
      intro b hb
      exact .inl hb
    · have holds : ∀ j u, xs[j]? = some u → W.cell? ((⟨g, 0, none⟩ : Addr).add j) = some u := hown.cells (g := g) rfl
      have hr2 := run_append_grow (P := P) W t ty e i z ht hi hz ⟨g, 0, none⟩ n cap xs hown.1 holds a m c news hl hnews (by omega) (by omega) (growslice_fits (by omega) hbytes)
      rw [hr] at hr2
      injection hr2 with e1 e2
      subst e1
      intro b hb
      simp [Value.ownBlock] at hb
      exact .inr (by omega)
/-- What is appended lies in a row of its own or is somebody else's: the cells are read there. -/
theorem stp_append {t e : TypeId} {bytes : Nat} {s x : Operand} {v : Value} {xs ys : List α} {fe fy : List Nat} {ad : Addr} {c m : Nat} {news : List Value} (hT : ApOk P t e α bytes) (hs : ev n f s = v) (hx : ev n f x = .slice (some ad) m c) (hm : ys.length = m)
    (hst : St w0 W (Res.row e v xs fe :: rs)) (hn : Elems W news ys fy) (hr : ∀ j u, news[j]? = some u → W.cell? (ad.add j) = some u) (hfy : ∀ b ∈ fy, Wr W b) (hfn : fy.Nodup) (hfr : ∀ b ∈ fy, b ∉ (Res.row e v xs fe).fp ∧ b ∉ rs.flatMap Res.fp ∧ w0.heap.size ≤ b)
    (h63 : xs.length + m ≤ maxLen) (hby : (xs.length + m) * bytes ≤ 140737488355328)
    (k : ∀ v' W', St w0 W' (Res.row e v' (xs ++ ys) (fe ++ fy) :: rs) → K v' W') :
    Stp P n ⟨d, .call { callee := .builtin .append, args := #[s, x], argTypes := #[t, t] }, ty, pos, af, g⟩ f W Q K := by
  subst hm
  obtain ⟨⟨cells, ho, he⟩, hw⟩ := hst.get 0 rfl
  obtain ⟨i, z, hi, hz, h1, h2, h3⟩ := hT.info
  obtain ⟨v', W', hrun, ho', hg, _⟩ := run_append_own (P := P) W 0 t ty e i z (Shape.size α) bytes hT.desc hi hz h1 h2 h3 hT.pos v xs.length cells ho ad ys.length c news hn.len hr hn.one h63 hby (Nat.zero_le _)
  have hblk := append_block (P := P) (base := 0) t ty e i z hT.desc hi hz (by rw [h1, h3]) (by rw [h1]; exact hT.pos) (by rw [h1]; exact ho) ad ys.length c news (by rw [h1]; exact hn.len) hr hn.one h63 (by rw [h2]; exact hby) hrun
  refine Stp.run (v := v') (W' := W') ?_ (k v' W' ?_)
  · simp only [execOp, resolve, invoke, builtin, Sem.run_bind, Sem.run_pure, Result.andThen_ok, List.map_toArray, List.map_cons, List.map_nil, hs, hx, hrun]
  have hnd := hst.nodup
  rw [List.flatMap_cons, List.nodup_append] at hnd
  have hnd1 : (v.ownBlock.toList ++ fe).Nodup := hnd.1
  rw [List.nodup_append] at hnd1
  have hnot : ∀ b ∈ fe ++ fy, some b ≠ v.ownBlock := by
    intro b hb hv
    rcases List.mem_append.1 hb with hb | hb
    · exact hnd1.2.2 b (by rw [← hv]; simp) b hb rfl
    · exact (hfr b hb).1 (by simp only [Res.row]; rw [← hv]; simp)
  have hltE : ∀ b ∈ fe ++ fy, b < W.heap.size := by
    intro b hb
    rcases List.mem_append.1 hb with hb | hb
    · exact (hw b hb).lt
    · exact (hfy b hb).lt
  have hkeep : ∀ b ∈ fe ++ fy, W'.heap[b]? = W.heap[b]? := fun b hb => hg.block b (hltE b hb) (hnot b hb)
  have hrow : (Res.row e v' (xs ++ ys) (fe ++ fy)).holds W' := by
    refine ⟨⟨cells ++ news, by rw [List.length_append]; exact ho', ?_⟩, ?_⟩
    · exact (he.loc hg.size (fun b hb => hkeep b (by simp [hb]))).append (hn.loc hg.size (fun b hb => hkeep b (by simp [hb])))
    · intro b hb
      refine Wr.loc ?_ (hkeep b hb)
      rcases List.mem_append.1 hb with hb | hb
      · exact hw b hb
      · exact hfy b hb
  -- the elements' blocks come along: first they are taken in
  have hst2 : St w0 W ({ fp := v.ownBlock.toList ++ fe ++ fy, holds := fun W => (Res.row e v xs fe).holds W ∧ ∀ b ∈ fy, Wr W b, loc := fun hs hb h => ⟨(Res.row e v xs fe).loc hs (fun b hm => hb b (List.mem_append_left _ hm)) h.1, fun b hm => (h.2 b hm).loc (hb b (List.mem_append_right _ hm))⟩, wr := fun h b hb => (List.mem_append.1 hb).elim (fun hb => (Res.row e v xs fe).wr h.1 b hb) (fun hb => h.2 b hb) } :: rs) := by
    refine ⟨hst.below, ?_, ?_, ?_⟩
    · rw [List.flatMap_cons, List.nodup_append]
      refine ⟨?_, hnd.2.1, ?_⟩
      · show ((v.ownBlock.toList ++ fe) ++ fy).Nodup
        rw [List.nodup_append]
        exact ⟨hnd.1, hfn, fun a ha b hb e => (hfr b hb).1 (by rw [← e]; exact ha)⟩
      · intro a ha b hb e
        rcases List.mem_append.1 ha with ha | ha
        · exact hnd.2.2 a ha b hb e
        · exact (hfr a ha).2.1 (by rw [e]; exact hb)
    · intro r hr b hb
      rcases List.mem_cons.1 hr with rfl | hr
      · rcases List.mem_append.1 hb with hb | hb
        · exact hst.fresh (Res.row e v xs fe) (by simp) b hb
        · exact (hfr b hb).2.2
      · exact hst.fresh r (by simp [hr]) b hb
    · intro r hr
      rcases List.mem_cons.1 hr with rfl | hr
      · exact ⟨hst.get 0 rfl, hfy⟩
      · exact hst.holds r (by simp [hr])
  refine hst2.turn hg.os hg.tape hg.output hg.size (fun k hk hne => hg.block k hk (fun e => hne (by simp [← e]))) hrow ?_ ?_
  · show (v'.ownBlock.toList ++ (fe ++ fy)).Nodup
    rw [List.nodup_append]
    refine ⟨by cases v'.ownBlock <;> simp, ?_, ?_⟩
    · rw [List.nodup_append]
      exact ⟨hnd1.2.1, hfn, fun a ha b hb e => (hfr b hb).1 (by rw [← e]; exact List.mem_append_right _ ha)⟩
    · intro a ha b hb e
      subst e
      have ha' : v'.ownBlock = some a := by simpa using ha
      rcases hblk a ha' with h | h
      · exact hnot a hb h.symm
      · have := hltE a hb; omega
  · intro b hb
    have hb : b ∈ v'.ownBlock.toList ++ (fe ++ fy) := hb
    rcases List.mem_append.1 hb with hb | hb
    · have hb' : v'.ownBlock = some b := by simpa using hb
      rcases hblk b hb' with h | h
      · exact .inl (by simp [h])
      · exact .inr h
    · exact .inl (show b ∈ v.ownBlock.toList ++ fe ++ fy by rw [List.append_assoc]; exact List.mem_append_right _ hb)

/-- A literal of m elements: a block of its own. -/
theorem stp_buildSlice {t e : TypeId} {len : Nat} {parts : List (Nat × Operand)} {vs : List (Nat × Value)} {cs : List Value} (hv : parts.map (fun (i, x) => (i, ev n f x)) = vs) (hb : (Instr.buildSlice t len vs.toArray).run P W = .ok (.slice (some ⟨W.heap.size, 0, none⟩) len len) (W.alloc (.cells cs.toArray e)))
    (hst : St w0 W rs) (k : ∀ b W', Below W.heap.size W W' → St w0 W' (Res.bx b cs e :: rs) → K (.slice (some ⟨b, 0, none⟩) len len) W') : Stp P n ⟨d, .buildSlice t len parts.toArray, ty, pos, af, g⟩ f W Q K :=
  Stp.run (v := .slice (some ⟨W.heap.size, 0, none⟩) len len) (W' := W.alloc (.cells cs.toArray e)) (by
    have e1 : parts.toArray.map (fun (i, x) => (i, ev n f x)) = vs.toArray := by rw [← hv]; simp
    simp only [execOp, Sem.run_bind, e1, hb]; rfl) (k _ _ (below_alloc (Below.refl _ _)) (hst.alloc cs e))
/-- append(out, x): the row is at the head, the literal's block behind it. Elements that lead nowhere. -/
theorem stp_append_bx {t e : TypeId} {bytes : Nat} {s x : Operand} {v : Value} {xs ys : List α} {fe : List Nat} {b m : Nat} {news : List Value} (hT : ApOk P t e α bytes) (hs : ev n f s = v) (hx : ev n f x = .slice (some ⟨b, 0, none⟩) m m) (hm : ys.length = m)
    (hst : St w0 W (Res.row e v xs fe :: Res.bx b news e :: rs)) (hn : Elems W news ys []) (h63 : xs.length + m ≤ maxLen) (hby : (xs.length + m) * bytes ≤ 140737488355328)
    (k : ∀ v' W', St w0 W' (Res.row e v' (xs ++ ys) fe :: rs) → K v' W') :
    Stp P n ⟨d, .call { callee := .builtin .append, args := #[s, x], argTypes := #[t, t] }, ty, pos, af, g⟩ f W Q K := by
  refine stp_append hT hs hx hm hst hn ?_ (by simp) (by simp) (by simp) h63 hby ?_
  · intro j u hj
    rw [Addr.add_mid]
    exact range_of_heap (hst.get 1 rfl) j u hj
  · intro v' W' h
    rw [List.append_nil] at h
    exact k v' W' (h.sub (.cons_cons _ (.cons _ (List.Sublist.refl _))))
end
end Go.Proofs.YtchnllpegfbleaaDoor
