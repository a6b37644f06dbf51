/-
  Appending to what is one's own. Theory alone.
  Appending a string's bytes to what is one's own. Theory alone.
  Calls that are handed a pointer to what is one's own; elements that are lent. Theory alone.
  Whole regions, whole bodies. Theory alone.
  A region that draws its order, some operations of which take what is the call's own, and make it: each is shown once, whatever else has come.
  A region that draws its order, read: what only reads may be done whenever; what makes memory, calls or writes has all else ahead of it or behind it. Theory alone.
  A region that draws its order, all orders of what writes being read one by one: for regions in which nothing bars the rest. Theory alone.
  Whole bodies; what a function is handed, and what it hands back. Theory alone.
  A function's contract, of what is told of its walk. Theory alone.
  How data stand, cell by cell.
  What is told of a walk, in short. Theory alone.
  Bytes of strings, parts of strings, bytes compared, as hooks. Theory alone.
  Numbers in bytes, read, of the program and of the reference.
  Four bytes read as a number, of both.
  A number in four bytes, of both.
  A mark's text, of both, given what a yard's text is.
  A mark read, of the program, given how yards are read and written.
  Files found by their names and read, of the reference.
  The mark of a disk, of both, given how it is read.
  The place of the first element that a test takes. Theory alone.
  What waits for what: ways along edges, and that a short one is there where there is one. Theory alone.
-/
import Derived.Lib.AppendStr
import Derived.Test.YtanpcpoogkdlaaaGreatQ01
import Derived.Test.YtanpcpoogkdlaaaGreatQ02
universe u
namespace Go.Proofs.YtanpcpoogkdlaaaGreat
set_option linter.unusedSimpArgs false
set_option linter.unusedVariables false
set_option maxHeartbeats 1000000
set_option maxHeartbeats 2000000
open Go.RowKit Go.Proofs.Tryz List

theorem qD {W : World} : ∀ {l1 l2 : List Lf} {cs : List Value} {fp : List Nat}, eE W cs (l1 ++ l2) fp → ∃ c1 c2 f1 f2, cs = c1 ++ c2 ∧ eE W c1 l1 f1 ∧ eE W c2 l2 f2 ∧ fp = f1 ++ f2
 | [], l2, cs, fp, h => ⟨[], cs, [], fp, rfl, rfl, h, rfl⟩
 | .v x :: l1, l2, c :: cs, fp, h => by
  obtain ⟨c1, c2, f1, f2, rfl, h1, h2, rfl⟩ := qD (l1 := l1) h.2
  exact ⟨c :: c1, c2, f1, f2, rfl, ⟨h.1, h1⟩, h2, rfl⟩
 | .s β i ys :: l1, l2, c :: cs, fp, h => by
  obtain ⟨g1, g2, h0, h, rfl⟩ := h
  obtain ⟨c1, c2, f1, f2, rfl, h1, h2, rfl⟩ := qD (l1 := l1) h
  exact ⟨c :: c1, c2, g1 ++ f1, f2, rfl, ⟨g1, f1, h0, h1, rfl⟩, h2, by simp⟩
 | .v x :: l1, l2, [], fp, h => h.elim
 | .s β i ys :: l1, l2, [], fp, h => h.elim
def lvs {α : Type} (i : Dsh α) : List α → List Lf
 | [] => []
 | y :: ys => i.lv y ++ lvs i ys
theorem pC {α : Type} (i : Dsh α) {W : World} : ∀ {ys : List α} {cs : List Value} {fp : List Nat}, eE W cs (lvs i ys) fp → (∀ y ∈ ys, i.good y) → @Elems α i.toShape W cs ys fp
 | [], [], fp, h, _ => ⟨rfl, h⟩
 | [], _ :: _, fp, h, _ => h.elim
 | y :: ys, cs, fp, h, hg => by
  obtain ⟨c1, c2, f1, f2, rfl, h1, h2, rfl⟩ := qD h
  exact ⟨c1, c2, f1, f2, rfl, i.inn (hg y mem_cons_self) h1, pC i h2 fun y hy => hg y (mem_cons_of_mem _ hy), rfl⟩
theorem sW {α : Type} [Shape α] (hp : mD α) {W : World} : ∀ {xs : List α} {cells : List Value} {fp : List Nat}, Elems W cells xs fp → fp = []
 | [], _, _, h => h.2
 | x :: xs, _, _, ⟨cs, rest, f1, f2, h1, h2, h3, h4⟩ => by rw [h4, hp _ _ _ _ h2, sW hp h3]; rfl
section
variable {P : Program} {n : Nat} {f : Nat → Value} {w0 W : World} {rs : List Res} {Q : Exit → Act → World → Prop} {d : Option Tmp} {ty : TypeId} {pos : String} {af : Array Go.Edge} {g : Option (Nat × Bool)} {K : Value → World → Prop}
theorem stp_append_pc {α : Type} (i : Dsh α) {t e e' : TypeId} {bytes : Nat} {s x : Operand} {v : Value} {xs ys : List α} {fe fz : List Nat} {b m : Nat} {cs : List Value} (hT : ApOk P t e α bytes) (hs : ev n f s = v) (hx : ev n f x = .slice (some ⟨b, 0, none⟩) m m) (hm : ys.length = m) (hg : ∀ y ∈ ys, i.good y)
  (hst : St w0 W (Res.row e v xs fe :: Res.bx b cs e' :: Res.pc cs (lvs i ys) fz :: rs)) (h63 : xs.length + m ≤ maxLen) (hby : (xs.length + m) * bytes ≤ 140737488355328)
  (k : ∀ v' fe' W', St w0 W' (Res.row e v' (xs ++ ys) fe' :: rs) → K v' W') :
  Stp P n ⟨d, .call { callee := .builtin .append, args := #[s, x], argTypes := #[t, t] }, ty, pos, af, g⟩ f W Q K := by
 have hc := hst.get 2 rfl
 have hst2 : St w0 W (Res.row e v xs fe :: Res.bx b cs e' :: rs) := hst.d2
 have hb := hst.get 1 rfl
 have hn := hst.nodup
 have h2 := hst.f2
 have hn2 := h2.nodup
 rw [flatMap_cons, nodup_append] at hn2
 refine kI hT hs hx hm hst2 (pC i hc.1 hg) ?_ hc.2 hn2.1 ?_ h63 hby fun v' W' st' => k v' _ W' st'.d1
 ·intro j u hj
  rw [Addr.add_mid]
  exact cC hb j u hj
 intro a ha
 refine ⟨fun h => hn2.2.2 a ha a ?_ rfl, fun h => hn2.2.2 a ha a ?_ rfl, h2.fresh (Res.pc cs (lvs i ys) fz) (by simp) a ha⟩
 ·rw [flatMap_cons]; exact mem_append_left _ h
 rw [flatMap_cons]; exact mem_append_right _ h
end
theorem St.lit {α : Type} (i : Dsh α) {w0 W : World} {b : Nat} {cs : List Value} {t : TypeId} {ys : List α} {fp : List Nat} {rs : List Res} (hne : ys ≠ []) (hl : ys.length ≤ 1000000) (hg : ∀ y ∈ ys, i.good y) (st : St w0 W (Res.bx b cs t :: Res.pc cs (lvs i ys) fp :: rs)) : St w0 W (@Res.own (List α) _ _ (Hd.val ⟨some ⟨b, 0, none⟩, ys.length, ys.length⟩) ys (b :: fp) :: rs) := by
 have hb : W.heap[b]? = some (.cells cs.toArray t (0, 0)) := st.get 0 rfl
 have hc := st.get 1 rfl
 have he := pC i hc.1 hg
 refine St.trade (rs1 := [Res.bx b cs t, Res.pc cs (lvs i ys) fp]) (rs2 := [_]) st ?_ ?_ ?_
 ·have hn := st.nodup
  rw [flatMap_cons, flatMap_cons, ← append_assoc, nodup_append] at hn
  simpa [Res.own, Res.bx, Res.pc] using hn.1
 ·intro c hc
  simpa [Res.own, Res.bx, Res.pc] using hc
 intro r hr
 simp only [mem_singleton] at hr
 subst hr
 have hsl : Sl W (Hd.val ⟨some ⟨b, 0, none⟩, ys.length, ys.length⟩) ys (b :: fp) :=
  ⟨some ⟨b, 0, none⟩, ys.length, rfl, Nat.le_refl _, by omega, .inr ⟨b, 0, fp, hne, rfl, rfl, (Array.getElem?_eq_some_iff.1 hb).1, he.at 0 (cC hb)⟩⟩
 refine ⟨hsl.v, fun c hm => ?_⟩
 rcases mem_cons.1 hm with rfl | hm
 ·exact ⟨_, _, hb⟩
 exact hc.2 c hm
theorem St.litrow {α : Type} (i : Dsh α) (hp : @mD α i.toShape) {w0 W : World} {b : Nat} {cs : List Value} {t : TypeId} {ys : List α} {fp : List Nat} {rs : List Res} (hl : ys.length ≤ 1000000) (hg : ∀ y ∈ ys, i.good y) (st : St w0 W (Res.bx b cs t :: Res.pc cs (lvs i ys) fp :: rs)) : St w0 W (@Res.row α i.toShape t (Hd.val ⟨some ⟨b, 0, none⟩, ys.length, ys.length⟩) ys [] :: rs) := by
 have hc := st.get 1 rfl
 have he := pC i hc.1 hg
 have hf := sW hp he
 subst hf
 exact St.row_lit (m := ys.length) (st.d1) rfl (by unfold maxLen; omega) he
/-! ### Bytes of a string -/
theorem lY {W : World} : ∀ xs : List UInt8, Elems W (xs.map fun y => Value.int .u8 (y.toNat : Int)) xs []
 | [] => ⟨rfl, rfl⟩
 | y :: xs => ⟨[.int .u8 (y.toNat : Int)], _, [], [], rfl, ⟨rfl, rfl, trivial⟩, lY xs, rfl⟩
theorem stp_bytesOf_sl {P : Program} {n : Nat} {f : Nat → Value} {W w0 : World} {rs : List Res} {Q : Exit → Act → World → Prop} {K : Value → World → Prop} {d : Option Tmp} {ty : TypeId} {pos : String} {af : Array Go.Edge} {g : Option (Nat × Bool)} {x : Operand} {t t' e : TypeId} {s : ByteArray}
  (hs : P.underlying t = some .string) (hd : P.underlying t' = some (.slice e)) (he : P.underlying e = some (.int .u8)) (hx : ev n f x = .string s) (hl : s.size ≤ maxLen) (hst : St w0 W rs)
  (k : ∀ v fp W', Below W.heap.size W W' → St w0 W' rs → Sl W' v s.data.toList fp → K v W') : Stp P n ⟨d, .convert t t' x, ty, pos, af, g⟩ f W Q K := by
 have hrun := run_bytes_of_string (P := P) W t t' e s hs hd he
 have hge := grownCap_ge W s.size 0 e
 have hcm := grownCap_le_maxLen W s.size 0 e hl
 have hl2 : s.data.toList.length = s.size := by rw [Array.length_toList]; rfl
 refine Stp.run (v := _) (W' := _) (by simp only [execOp, hx, Sem.run_bind, hrun, Result.andThen_ok]; rfl) (k _ (if s.data.toList = [] then [] else [W.heap.size]) _ ?_ ?_ ?_)
 ·exact ⟨rfl, rfl, rfl, by simp, fun j hj => Below.heap_alloc W.drew _ j hj⟩
 ·exact hst.call (rs' := []) (St.of_below ⟨rfl, rfl, rfl, by simp, fun j hj => Below.heap_alloc W.drew _ j hj⟩)
 refine ⟨some ⟨W.heap.size, 0, none⟩, grownCap W s.size 0 e, by rw [hl2], by rw [hl2]; exact hge, hcm, ?_⟩
 by_cases hne : s.data.toList = []
 ·exact .inl ⟨hne, by rw [if_pos hne]⟩
 have hh := heap_alloc_new W.drew (.cells (bytesRow s (grownCap W s.size 0 e)) e ((bytesRow s (grownCap W s.size 0 e)).size, (bytesRow s (grownCap W s.size 0 e)).size + 1))
 refine .inr ⟨W.heap.size, 0, [], hne, rfl, by rw [if_neg hne], (Array.getElem?_eq_some_iff.1 hh).1, (lY s.data.toList).at 0 ?_⟩
 intro j u hj
 have hjl : j < s.data.toList.length := by
  have := (gsi_.1 hj).1
  simpa using this
 rw [cell_of_row _ W.heap.size (0 + j) _ e _ hh]
 rw [← Array.getElem?_toList]
 unfold bytesRow
 rw [Array.toList_append, Array.toList_map, Nat.zero_add, getElem?_append_left (by simpa using hjl)]
 exact hj
section
variable {P : Program} {A : Type} {R : A → Prop}
def byT (P : Program) {A : Type} {R : A → Prop} (s : S) (t t' : TypeId) (c : Sc) (d : D P R) (K : SV → S → D P R → Tr) : Tr :=
 match d with
 | .by_ b _ k => .e0 c.val (.string b) <| .e0 (P.underlying t) (some .string) <| .e0 (P.underlying t') (some (.slice (elT0 P t'))) <| .e0 (P.underlying (elT0 P t')) (some (.int .u8)) <|
   .fn fun g : Hd × List Nat => K (one (.rf s.nx g.1)) ⟨s.E, s.O, (s.nx, false, .sl (inferInstance : Shape UInt8) g.1 b.data.toList g.2) :: s.B, s.nx + 1⟩ k
 | _ => .no
theorem byT_ok {w0 W : World} {s : S} {t t' : TypeId} {x : Operand} {c : Sc} {dd : D P R} {K : SV → S → D P R → Tr} {n : Nat} {f : Nat → Value} {Q : Exit → Act → World → Prop} {KK : Value → World → Prop} {d : Option Tmp} {ty : TypeId} {pos : String} {af : Array Go.Edge} {g : Option (Nat × Bool)}
  (hx : ev n f x = c.val) (h : (byT P s t t' c dd K).holds) (st : St w0 W s.rs) (fa : Facts w0 W s.B) (k : ∀ v s' d' W', (K v s' d').holds → s'.E = s.E → s'.O = s.O → Below W.heap.size W W' → St w0 W' s'.rs → Facts w0 W' s'.B → KK v.val W') : Stp P n ⟨d, .convert t t' x, ty, pos, af, g⟩ f W Q KK := by
 unfold byT at h
 split at h
 ·next b hb kk =>
  obtain ⟨h1, h2, h3, h4, h5⟩ := h
  refine stp_bytesOf_sl h2 h3 h4 (hx.trans h1) hb st fun v fp W' hbl st' hs => ?_
  obtain ⟨hd, rfl, _⟩ := hs.hd
  refine k _ _ _ W' (h5 (hd, fp)) rfl rfl hbl st' fun e he => ?_
  rcases mem_cons.1 he with rfl | he
  ·exact hs
  exact fa.up hbl e he
 exact h.elim
end
/-! ### An own slice becomes what is left of it -/
theorem plain_nodup {α : Type} [Shape α] (hp : mD α) {W : World} {v : Value} {xs : List α} {g : List Nat} (h : Sl W v xs g) : g.Nodup := by
 obtain ⟨ao, cap, rfl, _, _, h⟩ := h
 rcases h with ⟨_, rfl⟩ | ⟨b, o, fp, _, _, rfl, _, hs⟩
 ·exact nodup_nil
 rw [hs.plain hp]; simp
section
variable {P : Program} {A : Type} {R : A → Prop}
def dqT (P : Program) {A : Type} {R : A → Prop} (s : S) (t : TypeId) (c y : Sc) (d : D P R) (K : SV → S → D P R → Tr) : Tr :=
 match c, d with
 | .rf j h, .dq i _ xs n _ e _ k => match lku s.O j with
  | some (.own i' h' xs' _) => .e0 h h' <| .e1 (⟨i', xs'⟩ : Dat) ⟨i, xs⟩ <| .e0 y.val (I e) <| .e0 (elK P t) (some i.size) <|
    .fn fun g : Hd × List Nat => K (one (.rf j g.1)) ⟨s.E, (j, .own i g.1 (xs.drop n) g.2) :: dI s.O j, s.B, s.nx⟩ k
  | some (.row i' _ h' xs' _) => .e0 h h' <| .e1 (⟨i', xs'⟩ : Dat) ⟨i, xs⟩ <| .e0 y.val (I e) <| .e0 (elK P t) (some i.size) <|
    .fn fun g : Hd × List Nat => K (one (.rf j g.1)) ⟨s.E, (j, .own i g.1 (xs.drop n) g.2) :: dI s.O j, s.B, s.nx⟩ k
  | _ => .no
 | _, _ => .no
theorem dqT_ok {w0 W : World} {s : S} {t : TypeId} {x y : Operand} {c cy : Sc} {dd : D P R} {K : SV → S → D P R → Tr} {n : Nat} {f : Nat → Value} {Q : Exit → Act → World → Prop} {KK : Value → World → Prop} {d : Option Tmp} {ty : TypeId} {pos : String} {af : Array Go.Edge} {g : Option (Nat × Bool)}
  (hx : ev n f x = c.val) (hy : ev n f y = cy.val) (h : (dqT P s t c cy dd K).holds) (st : St w0 W s.rs) (fa : Facts w0 W s.B) (k : ∀ v s' d', (K v s' d').holds → s'.E = s.E → St w0 W s'.rs → Facts w0 W s'.B → KK v.val W) :
  Stp P n ⟨d, .slice t x (some y) none none, ty, pos, af, g⟩ f W Q KK := by
 unfold dqT at h
 have st1 : St w0 W (Or s.O ++ []) := by simpa [Or, S.rs] using st
 have key : ∀ {α : Type} {i : Shape α} (hp : mD α) {xs : List α} {m : Nat} (hm : m ≤ xs.length) {e : Int} (he : e = m) {h' : Hd} {fp : List Nat} {rs : List Res} (h1 : c.val = h'.val) (h2 : cy.val = I e) (h3 : elK P t = some i.size) (st2 : St w0 W (Res.own h'.val xs fp :: rs)) (kk : ∀ (hd : Hd) (g : List Nat), St w0 W (Res.own hd.val (xs.drop m) g :: rs) → KK hd.val W), Stp P n ⟨d, .slice t x (some y) none none, ty, pos, af, g⟩ f W Q KK := by
  intro α i hp xs m hm e he h' fp rs h1 h2 h3 st2 kk
  have hs := aS (st2.get 0 rfl)
  obtain ⟨u, gg, hs', hsub, hstep⟩ := slq_l hs hm
  obtain ⟨hd2, rfl, _⟩ := hs'.hd
  obtain ⟨e2, hT⟩ := oC h3
  refine hstep hT (hx.trans h1) (hy.trans h2) he (kk hd2 gg (St.trade (rs1 := [Res.own h'.val xs fp]) (rs2 := [Res.own hd2.val (xs.drop m) gg]) st2 ?_ ?_ ?_))
  ·simpa [Res.own] using plain_nodup hp hs'
  ·intro b hb
   simp only [flatMap_cons, flatMap_nil, append_nil, Res.own] at hb ⊢
   exact hsub b hb
  intro r hr
  simp only [mem_singleton] at hr
  subst hr
  exact ⟨hs'.v, fun b hb => (st2.get 0 rfl).2 b (hsub b hb)⟩
 split at h
 ·next α j hd i hp xs m hm e he kk =>
  split at h
  ·next i' h' xs' fp hj =>
   obtain ⟨rfl, h4, h5, h6, h7⟩ := h
   simp only [Dat.mk.injEq] at h4
   obtain ⟨rfl, h8, h9⟩ := h4
   obtain ⟨rfl, rfl⟩ := And.intro (eq_of_heq h8) (eq_of_heq h9)
   have st2 := st1.take hj
   refine key hp hm he rfl h5 h6 st2 fun hd2 gg st3 => k _ _ _ (h7 (hd2, gg)) rfl ?_ fa
   have st4 := st3
   rw [append_nil] at st4
   exact st4
  ·next i' te h' xs' fe hj =>
   obtain ⟨rfl, h4, h5, h6, h7⟩ := h
   simp only [Dat.mk.injEq] at h4
   obtain ⟨rfl, h8, h9⟩ := h4
   obtain ⟨rfl, rfl⟩ := And.intro (eq_of_heq h8) (eq_of_heq h9)
   obtain ⟨fp, st2⟩ := St.shut (st1.take hj)
   refine key hp hm he rfl h5 h6 st2 fun hd2 gg st3 => k _ _ _ (h7 (hd2, gg)) rfl ?_ fa
   have st4 := st3
   rw [append_nil] at st4
   exact st4
  exact h.elim
 exact h.elim
def aC5 {α : Type} (P : Program) (s : S) (t : TypeId) (c : Sc) (i : Shape α) (xs : List α) (bytes : Nat) (K : Nat → TypeId → List (Nat × Ob) → Nat → Tr) : Tr :=
 .e0 (P.underlying t) (some (.slice (elT P t))) <| .e0 ((P.info? (elT P t)).bind (fun i => i.zero.map (fun z => (i.size, i.bytes, z.cells.size)))) (some (i.size, bytes, i.size)) <| .e0 (Nat.ble 1 i.size) true <|
  match c with
  | .rf j h => match lku s.O j with
   | some (.row i' e h' xs' _) => .e0 h h' <| .e0 e (elT P t) <| .e1 (⟨i', xs'⟩ : Dat) ⟨i, xs⟩ (K j e (dI s.O j) s.nx)
   | _ => .no
  | .vl (.slice none 0 0) => .e1 (⟨i, []⟩ : Dat) ⟨i, xs⟩ (K s.nx (elT P t) s.O (s.nx + 1))
  | _ => .no
theorem tY {G : Prop} {α : Type} {s : S} {t : TypeId} {c : Sc} {i : Shape α} {xs : List α} {bytes : Nat} {K : Nat → TypeId → List (Nat × Ob) → Nat → Tr} {w0 W : World} (h : (aC5 P s t c i xs bytes K).holds) (st : St w0 W s.rs)
  (k : ∀ j e O nx fe, (K j e O nx).holds → ApOk P t e α bytes → St w0 W (Res.row e c.val xs fe :: Or O) → G) : G := by
 obtain ⟨h1, h2, h3, h⟩ := h
 have hT : ApOk P t (elT P t) α bytes := zH h1 h2 (Nat.le_of_ble_eq_true h3)
 split at h
 ·split at h
  ·next j hd _ i' e h' xs' fe hj =>
   obtain ⟨rfl, rfl, h4, h⟩ := h
   simp only [Dat.mk.injEq] at h4
   obtain ⟨rfl, h5, h6⟩ := h4
   obtain ⟨rfl, rfl⟩ := And.intro (eq_of_heq h5) (eq_of_heq h6)
   have st2 := St.take (rs := []) (by simpa [Or, S.rs] using st) hj
   simp only [append_nil] at st2
   exact k _ _ _ _ fe h hT st2
  exact h.elim
 ·obtain ⟨h4, h⟩ := h
  simp only [Dat.mk.injEq, heq_eq_eq, true_and] at h4
  subst h4
  exact k _ _ _ _ [] h hT (st.row_nil _)
 exact h.elim
def apT (P : Program) {A : Type} {R : A → Prop} (s : S) (t : TypeId) (c y : Sc) (d : D P R) (K : SV → S → D P R → Tr) : Tr :=
 nrm d fun d => match d with
  | .ap i xs ys _ bytes _ _ k => aC5 P s t c i.toShape xs bytes fun j e O nx => match y with
   | .lt j2 b m => .e0 ys.length m <| match lku O j2 with
    | some (.bx b' pre cs post e') => .e0 b b' <| .e0 pre [] <| .e0 post [] <| iQ (dI O j2) cs (lvs i ys) fun O' =>
      .fn fun g : Hd × List Nat => K (one (.rf j g.1)) ⟨s.E, (j, .row i.toShape e g.1 (xs ++ ys) g.2) :: O', lasting s.B, nx⟩ k
    | _ => .no
   | _ => .no
  | .as i _ xs ys bytes _ _ k => aC5 P s t c i xs bytes fun j e O nx => slT ⟨s.E, O, s.B, s.nx⟩ y i ys <|
    .fn fun g : Hd × List Nat => K (one (.rf j g.1)) ⟨s.E, (j, .row i e g.1 (xs ++ ys) g.2) :: O, lasting s.B, nx⟩ k
  | _ => .no
theorem apT_ok {w0 W : World} {s : S} {t : TypeId} {x y : Operand} {c cy : Sc} {dd : D P R} {K : SV → S → D P R → Tr} {n : Nat} {f : Nat → Value} {Q : Exit → Act → World → Prop} {KK : Value → World → Prop} {d : Option Tmp} {ty : TypeId} {pos : String} {af : Array Go.Edge} {g : Option (Nat × Bool)}
  (hx : ev n f x = c.val) (hy : ev n f y = cy.val) (h : (apT P s t c cy dd K).holds) (st : St w0 W s.rs) (fa : Facts w0 W s.B) (k : ∀ v s' d' W', (K v s' d').holds → s'.E = s.E → St w0 W' s'.rs → Facts w0 W' s'.B → KK v.val W') :
  Stp P n ⟨d, .call { callee := .builtin .append, args := #[x, y], argTypes := #[t, t] }, ty, pos, af, g⟩ f W Q KK := by
 unfold apT at h
 refine dU h fun d' h1 => ?_
 clear h
 split at h1
 ·next α i xs ys hg bytes h63 hby kk =>
  refine tY h1 st fun j e O nx fe h hT st2 => ?_
  clear h1
  split at h
  ·next j2 b m =>
   obtain ⟨rfl, h2⟩ := h
   split at h2
   ·next b' pre cs post e' hj =>
    obtain ⟨rfl, rfl, rfl, h⟩ := h2
    have st3 : St w0 W (Or O ++ [Res.row e c.val xs fe]) := st2.perm (perm_append_comm.trans (by simp))
    have st4 := st3.take hj
    have st5 : St w0 W (Or (dI O j2) ++ [Res.row e c.val xs fe, Res.bx b (cs.map Sc.val) e']) := by
     have := st4
     simp only [Ob.res, nil_append, append_nil] at this
     exact this.perm (by
      refine (perm_append_comm (l₁ := Or (dI O j2)) (l₂ := [Res.row e c.val xs fe, Res.bx b (cs.map Sc.val) e'])).trans ((List.Perm.swap _ _ _).trans ?_)
      exact (perm_append_comm (l₁ := [Res.row e c.val xs fe]) (l₂ := Or (dI O j2))).cons _)
    refine eG h st5 fun O' fp h' st6 => ?_
    have st7 : St w0 W (Res.row e c.val xs fe :: Res.bx b (cs.map Sc.val) e' :: Res.pc (cs.map Sc.val) (lvs i ys) fp :: Or O') := by
     refine st6.perm ((perm_append_comm (l₁ := [Res.row e c.val xs fe, Res.bx b (cs.map Sc.val) e']) (l₂ := Res.pc (cs.map Sc.val) (lvs i ys) fp :: Or O')).trans ?_)
     exact List.Perm.refl _
    refine stp_append_pc i hT hx hy rfl hg st7 h63 hby fun v' fe' W' st' => ?_
    have hs := gB (st'.get 0 rfl)
    obtain ⟨hd, rfl, hn⟩ := hs.hd
    exact k _ _ _ W' (h' (hd, fe')) rfl st' fa.lasting
   exact h2.elim
  exact h.elim
 ·next α i hp xs ys bytes h63 hby kk =>
  refine tY h1 st fun j e O nx fe h hT st2 => ?_
  obtain ⟨⟨fp, hs⟩, h⟩ := yL h (w0 := w0) (W := W) st2.d0 fa
  have hfe : fe = [] := by
   obtain ⟨⟨cells, _, he⟩, _⟩ := st2.get 0 rfl
   exact sW hp he
  subst hfe
  refine jI hp hT hx hy hs (Below.refl _ _) st2 h63 hby fun v' W' st' => ?_
  have hs := gB (st'.get 0 rfl)
  obtain ⟨hd, rfl, hn⟩ := hs.hd
  exact k _ _ _ W' (h (hd, [])) rfl st' fa.lasting
 exact h1.elim
end
end Go.Proofs.YtanpcpoogkdlaaaGreat
namespace Go.Proofs.YtanpcpoogkdlaaaGreat
set_option linter.unusedSimpArgs false
set_option linter.unusedVariables false
set_option maxHeartbeats 1000000
set_option maxHeartbeats 2000000
open Go.RowKit Go.Proofs.Tryz List Go.Lib
theorem append_block_str {P : Program} {W W' : World} {t u ty e : TypeId} {i : TypeInfo} (ht : P.underlying t = some (.slice e)) (hu : P.underlying u = some .string) (hi : P.info? e = some i) (hz : i.zero = some (.int .u8 0)) (hsize : i.size = 1) (hby : i.bytes = 1)
  {v v' : Value} {n : Nat} {xs : List Value} (hown : W.ownsRow 0 e 1 v n xs) {s : ByteArray} (h63 : n + s.size ≤ maxLen) (hbytes : n + s.size ≤ 140737488355328) (hrun : (Builtin.append_ #[t, u] ty #[v, .string s]).run P W = .ok v' W') :
  ∀ a, v'.ownBlock = some a → v.ownBlock = some a ∨ W.heap.size ≤ a := by
 have hxl : xs.length = n := by simpa using hown.1
 have hsmall : n + s.size ≤ 9223372036854775807 := by simp only [maxLen] at h63; omega
 rcases hown.2 with ⟨rfl, rfl⟩ | ⟨g, cap, cur, rfl, hbg, hg, hnc, hcm, hcs, htake⟩
 ·by_cases hm : s.size = 0
  ·have hf := run_firstCells_string (P := P) W 1 s
   rw [hm] at hf
   have hr : (Builtin.append_ #[t, u] ty #[.slice none 0 0, .string s]).run P W = .ok (.slice none 0 0) W := by
    simp [Builtin.append_, run_underlying ht, run_underlying hu, sizeOf, typeInfo, hi, hsize, Builtin.lenOf, hm, hf]
   rw [hr] at hrun
   injection hrun with h1 h2
   subst h1
   intro a ha
   simp [Value.ownBlock] at ha
  have hr := run_append_nil_string (P := P) W t u ty e i (.int .u8 0) ht hu hi hz s aC aC (by rw [hby]; omega)
  rw [hr] at hrun
  injection hrun with h1 h2
  subst h1
  intro a ha
  simp [Value.ownBlock] at ha
  omega
 by_cases hroom : n + s.size ≤ cap
 ·have hcs' : cur.size = cap := by simpa using hcs
  have hr := run_append_room_string (P := P) W t u ty e i ht hu hi hsize g n cap cur hg s hroom aC
  rw [hr] at hrun
  injection hrun with h1 h2
  subst h1
  intro a ha
  exact .inl (by simpa [Value.ownBlock] using ha)
 have holds : ∀ j u, xs[j]? = some u → W.cell? ((⟨g, 0, none⟩ : Addr).add j) = some u := hown.cells (g := g) rfl
 have hr := run_append_grow_string (P := P) W t u ty e i (.int .u8 0) ht hu hi hz ⟨g, 0, none⟩ n cap xs (by rw [hsize]; simpa using hxl) holds s aC aC (by rw [hby]; exact growslice_fits aC aC)
 rw [hr] at hrun
 injection hrun with h1 h2
 subst h1
 intro a ha
 simp [Value.ownBlock] at ha
 omega
section
variable {P : Program} {n : Nat} {f : Nat → Value} {w0 W : World} {rs : List Res} {Q : Exit → Act → World → Prop} {d : Option Tmp} {ty : TypeId} {pos : String} {af : Array Go.Edge} {g : Option (Nat × Bool)} {K : Value → World → Prop}
theorem stp_append_str {t t' e : TypeId} {s x : Operand} {v : Value} {xs : List UInt8} {b : ByteArray} (hT : ApOk P t e UInt8 1) (hu : P.underlying t' = some .string) (hz0 : (P.info? e).bind (·.zero) = some (.int .u8 0)) (hs : ev n f s = v) (hx : ev n f x = .string b)
  (hst : St w0 W (Res.row e v xs [] :: rs)) (h63 : xs.length + b.size ≤ maxLen) (hby : xs.length + b.size ≤ 140737488355328)
  (k : ∀ v' W', St w0 W' (Res.row e v' (xs ++ b.data.toList) [] :: rs) → K v' W') :
  Stp P n ⟨d, .call { callee := .builtin .append, args := #[s, x], argTypes := #[t, t'] }, ty, pos, af, g⟩ f W Q K := by
 obtain ⟨⟨cells, ho, he⟩, hw⟩ := hst.get 0 rfl
 obtain ⟨i, z, hi, hz, h1, h2, h3⟩ := hT.info
 have hz1 : i.zero = some (.int .u8 0) := by simpa [hi] using hz0
 have h1' : i.size = 1 := h1
 obtain ⟨v', W', hrun, ho', hg, _⟩ := run_append_own_string (P := P) W 0 t t' ty e i hT.desc hu hi hz1 h1' h2 v xs.length cells ho b h63 hby (Nat.zero_le _)
 have hblk := append_block_str hT.desc hu hi hz1 h1' h2 ho h63 hby hrun
 refine Stp.run (v := v') (W' := W') ?_ (k v' W' ?_)
 ·simp only [execOp, resolve, invoke, builtin, Sem.run_bind, Sem.run_pure, Result.andThen_ok, map_toArray, map_cons, map_nil, hs, hx, hrun]
 have hl : (xs ++ b.data.toList).length = xs.length + b.size := by rw [length_append]; rfl
 have hn : Elems W' (strCells b) b.data.toList [] := lY b.data.toList
 have hrow : (Res.row e v' (xs ++ b.data.toList) []).holds W' := by
  refine ⟨⟨cells ++ strCells b, by rw [hl]; exact ho', ?_⟩, fun b hb => by cases hb⟩
  have := (he.loc hg.size (fun b hb => by cases hb)).append hn
  simpa using this
 have hst2 : St w0 W (Res.row e v xs [] :: rs) := hst
 refine hst2.turn hg.os hg.tape hg.output hg.size (fun k hk hne => hg.block k hk (fun e => hne (by simp [Res.row, ← e]))) hrow ?_ ?_
 ·show (v'.ownBlock.toList ++ []).Nodup
  cases v'.ownBlock <;> simp
 intro c hc
 have hc : c ∈ v'.ownBlock.toList ++ [] := hc
 rw [append_nil] at hc
 have hc' : v'.ownBlock = some c := by simpa using hc
 rcases hblk c hc' with h | h
 ·exact .inl (by show c ∈ v.ownBlock.toList ++ []; simp [h])
 exact .inr h
end
section
variable {P : Program} {A : Type} {R : A → Prop}
def abT (P : Program) {A : Type} {R : A → Prop} (s : S) (t t' : TypeId) (c u : Sc) (d : D P R) (K : SV → S → D P R → Tr) : Tr :=
 match d with
 | .bs xs b _ _ k => .e0 u.val (.string b) <| .e0 (P.underlying t') (some .string) <| .e0 ((P.info? (elT P t)).bind (·.zero)) (some (.int .u8 0)) <|
   aC5 P s t c (inferInstance : Shape UInt8) xs 1 fun j e O nx => .fn fun g : Hd => K (one (.rf j g)) ⟨s.E, (j, .row (inferInstance : Shape UInt8) e g (xs ++ b.data.toList) []) :: O, lasting s.B, nx⟩ k
 | _ => .no
theorem abT_ok {w0 W : World} {s : S} {t t' : TypeId} {x y : Operand} {c u : Sc} {dd : D P R} {K : SV → S → D P R → Tr} {n : Nat} {f : Nat → Value} {Q : Exit → Act → World → Prop} {KK : Value → World → Prop} {d : Option Tmp} {ty : TypeId} {pos : String} {af : Array Go.Edge} {g : Option (Nat × Bool)}
  (hx : ev n f x = c.val) (hy : ev n f y = u.val) (h : (abT P s t t' c u dd K).holds) (st : St w0 W s.rs) (fa : Facts w0 W s.B) (k : ∀ v s' d' W', (K v s' d').holds → s'.E = s.E → St w0 W' s'.rs → Facts w0 W' s'.B → KK v.val W') :
  Stp P n ⟨d, .call { callee := .builtin .append, args := #[x, y], argTypes := #[t, t'] }, ty, pos, af, g⟩ f W Q KK := by
 unfold abT at h
 split at h
 ·next xs b h63 hby kk =>
  obtain ⟨h1, h2, h3, h⟩ := h
  refine tY h st fun j e O nx fe h hT st2 => ?_
  have he : elT P t = e := by unfold elT; rw [hT.desc]
  have hfe : fe = [] := by
   obtain ⟨⟨cells, _, he⟩, _⟩ := st2.get 0 rfl
   have hp : ∀ {xs : List UInt8} {cells : List Value} {fp : List Nat}, Elems W cells xs fp → fp = [] := by
    intro xs
    induction xs with
    | nil => exact fun h => h.2
    | cons x xs ih =>
     rintro cells fp ⟨cs, rest, f1, f2, g1, g2, g3, g4⟩
     have h5 : f1 = [] := g2.2.1
     rw [g4, h5, ih g3]; rfl
   exact hp he
  subst hfe
  refine stp_append_str hT h2 (by rw [← he]; exact h3) hx (hy.trans h1) st2 h63 hby fun v' W' st' => ?_
  have hs := gB (st'.get 0 rfl)
  obtain ⟨hd, rfl, hn⟩ := hs.hd
  exact k _ _ _ W' (h hd) rfl st' fa.lasting
 exact h.elim
end
end Go.Proofs.YtanpcpoogkdlaaaGreat
namespace Go.Proofs.YtanpcpoogkdlaaaGreat
set_option linter.unusedSimpArgs false
set_option linter.unusedVariables false
set_option maxHeartbeats 1000000
set_option maxHeartbeats 2000000
open Go.RowKit Go.Proofs.Tryz List
section
variable {P : Program} {A : Type} {R : A → Prop}
theorem split3 (cs : List Sc) (o m : Nat) : cs = cs.take o ++ ((cs.drop o).take m ++ cs.drop (o + m)) := by
 rw [← drop_drop, take_append_drop, take_append_drop]
def cmT (s : S) (lk : Operand → Option SV) (F : FuncId) (xs : List Operand) (d : D P R) (K : SV → S → D P R → Tr) : Tr :=
 nrm d fun d => match d with
  | .cm (ps := ps) (i := i) (x := x) (R' := R') (y := y) (rk := rk) F' (fn := fn) _ _ _ k => .e0 F F' <| .e0 ((fn.name == "runtime.NumGoroutine") || fn.body.isNone) false <| opt (lkv lk xs) fun us => match us with
   | .on (.ce (.pt j b q o)) :: us => match lku s.O j with
    | some (.bx b' pre cs post t) => .e0 b b' <| .e0 q pre.length <| .e0 (Nat.ble (o + (i.lv x).length) cs.length) true <|
      iQ (dI s.O j) ((cs.drop o).take (i.lv x).length) (i.lv x) fun O' => mZ ⟨[], [], lasting s.B, 0⟩ us ps <|
      .fn fun a => .fp (R' a) fun ha => tL (i.lv (y a)) ⟨s.E, O', lasting s.B, s.nx⟩ fun scs s2 => .fp (lns (i.lv (y a))) fun hn => rkb (rk a) ⟨s2.E, (j, .bx b' pre (cs.take o ++ (scs ++ cs.drop (o + (i.lv x).length))) post t) :: s2.O, s2.B, s2.nx⟩ fun ts s3 => .fp (gds (rk a)) fun hg => K (tups ts) s3 (k a ha hn hg)
    | _ => .no
   | _ => .no
  | _ => .no
theorem Facts.base {w0 W : World} : ∀ {B : List (Nat × Bool × Bo)}, Facts w0 W B → Facts w0 w0 (Go.Proofs.YtanpcpoogkdlaaaGreat.lasting B) := fun h => h.lasting
theorem cmT_ok {w0 W : World} {s : S} {lk : Operand → Option SV} {F : FuncId} {xs : List Operand} {ats : Array TypeId} {dd : D P R} {K : SV → S → D P R → Tr} {n : Nat} {f : Nat → Value} {Q : Exit → Act → World → Prop} {KK : Value → World → Prop} {d : Option Tmp} {ty : TypeId} {pos : String} {af : Array Go.Edge} {g : Option (Nat × Bool)}
  (hl : ∀ x u, lk x = some u → ev n f x = u.val) (h : (cmT s lk F xs dd K).holds) (st : St w0 W s.rs) (fa : Facts w0 W s.B) (k : ∀ v s' d' W', (K v s' d').holds → s'.E = s.E → St w0 W' s'.rs → Facts w0 W' s'.B → KK v.val W') : Stp P n ⟨d, .call { callee := .value (.func F), args := xs.toArray, argTypes := ats }, ty, pos, af, g⟩ f W Q KK := by
 unfold cmT at h
 refine dU h fun d' h1 => ?_
 clear h
 split at h1
 ·next ps α i x A' R' y rk F' fn hf hct hg kk =>
  obtain ⟨rfl, ho, h1⟩ := h1
  refine aQ h1 fun us hus h2 => ?_
  clear h1
  split at h2
  ·next j b q o us' =>
   split at h2
   ·next b' pre cs post t hj =>
    obtain ⟨rfl, rfl, hle, h3⟩ := h2
    have st1 : St w0 W (Or s.O ++ []) := by simpa [Or, S.rs] using st
    have st2 := st1.take hj
    have st3 : St w0 W (Or (dI s.O j) ++ [Res.bx b (pre ++ cs.map Sc.val ++ post) t]) := by
     have : St w0 W (Res.bx b (pre ++ cs.map Sc.val ++ post) t :: (Or (dI s.O j) ++ [])) := st2
     rw [append_nil] at this
     exact this.perm perm_append_comm
    refine eG h3 st3 fun O' fp h4 st4 => ?_
    obtain ⟨hp, h5⟩ := lP (s := ⟨[], [], lasting s.B, 0⟩) (w0 := w0) (W := w0) (St.start w0) fa.base h4 hg
    have hlen : ((cs.drop o).take (i.lv x).length).length = (i.lv x).length := by
     have := Nat.le_of_ble_eq_true hle
     rw [length_take, length_drop]; omega
    have hto : (cs.take o).length = o := by
     have := Nat.le_of_ble_eq_true hle
     rw [length_take]; omega
    have e1 : pre ++ cs.map Sc.val ++ post = (pre ++ (cs.take o).map Sc.val) ++ ((cs.drop o).take (i.lv x).length).map Sc.val ++ ((cs.drop (o + (i.lv x).length)).map Sc.val ++ post) := by
     conv => lhs; rw [split3 cs o (i.lv x).length]
     simp [map_append, append_assoc]
    have e2 : (pre ++ (cs.take o).map Sc.val).length = pre.length + o := by rw [length_append, length_map, hto]
    have st5 : St w0 W (Res.bx b ((pre ++ (cs.take o).map Sc.val) ++ ((cs.drop o).take (i.lv x).length).map Sc.val ++ ((cs.drop (o + (i.lv x).length)).map Sc.val ++ post)) t :: Res.pc (((cs.drop o).take (i.lv x).length).map Sc.val) (i.lv x) fp :: Or O') := by
     rw [← e1]
     refine st4.perm ((perm_append_comm (l₁ := [Res.bx b (pre ++ cs.map Sc.val ++ post) t]) (l₂ := Res.pc (((cs.drop o).take (i.lv x).length).map Sc.val) (i.lv x) fp :: Or O')).trans ?_)
     exact List.Perm.refl _
    have hc := hct.run w0 W b _ _ t _ fp (us'.map SV.val) _ st5 hp
    rw [e2] at hc
    refine iS hf ho (tG hl hus) (hc.mono ?_)
    rintro e W' ⟨a, vs, cs', fp', rr, ha, rfl, hr, st6⟩
    have h6 := h5 a ha
    have st7 : St w0 W' (Res.pc cs' (i.lv (y a)) fp' :: ((Res.bx b ((pre ++ (cs.take o).map Sc.val) ++ cs' ++ ((cs.drop (o + (i.lv x).length)).map Sc.val ++ post)) t :: rr) ++ Or O')) := st6.swap
    refine jV (s := ⟨s.E, O', lasting s.B, s.nx⟩) h6 st7 fun scs s2 h7 e3 e4 e5 _ st8 hn => ?_
    have h8 := h7 hn
    have e9 : (pre ++ (cs.take o).map Sc.val) ++ cs' ++ ((cs.drop (o + (i.lv x).length)).map Sc.val ++ post) = pre ++ (cs.take o ++ (scs ++ cs.drop (o + (i.lv x).length))).map Sc.val ++ post := by
     rw [← e3]; simp [map_append, append_assoc]
    have st9 : St w0 W' (rr ++ S.rs ⟨s2.E, (j, .bx b pre (cs.take o ++ (scs ++ cs.drop (o + (i.lv x).length))) post t) :: s2.O, s2.B, s2.nx⟩) := by
     rw [e9] at st8
     exact st8.perm (perm_middle (a := (Ob.bx b pre (cs.take o ++ (scs ++ cs.drop (o + (i.lv x).length))) post t).res) (l₁ := rr) (l₂ := s2.rs))
    refine pP h8 hr st9 fun ts s3 h9 e6 e7 e8 _ st10 hgd => ?_
    have fa3 : Facts w0 W' s3.B := by
     rw [e8]
     show Facts w0 W' s2.B
     rw [e5]
     exact fa.lasting
    exact ⟨_, rfl, by rw [← e6, ← rY]; exact k _ s3 _ W' (h9 hgd) (e7.trans e4) st10 fa3⟩
   exact h2.elim
  exact h2.elim
 exact h1.elim
/-! ### Elements that are lent -/
theorem St.lendG {α : Type} (i : Dsh α) (hp : Nat.ble 1 i.size = true) {w0 W : World} {rs : List Res} {v : Value} {xs : List α} {fp : List Nat} (h : St w0 W (@Res.own (List α) (@instShapeList α i.toShape) _ v xs fp :: rs)) {n : Nat} {x : α} (hi : xs[n]? = some x) :
  ∃ b e pre cs post fi fr, i.good x ∧ St w0 W (Res.pc cs (i.lv x) fi :: (Res.bx b (pre ++ cs ++ post) e :: @Res.rest α i.toShape v b pre post xs n fr :: rs)) := by
 obtain ⟨b, e, pre, cs, post, fi, fr, _, hc, st⟩ := St.lendx (Nat.le_of_ble_eq_true hp) h hi
 obtain ⟨st2, hg⟩ := St.cs_pc i st.f1
 exact ⟨b, e, pre, cs, post, fi, fr, hg, st2⟩
theorem St.giveG {α : Type} (i : Dsh α) {w0 W : World} {rs : List Res} {v : Value} {xs : List α} {b n : Nat} {e : TypeId} {pre cs post : List Value} {y : α} {fi fr : List Nat} (hg : i.good y)
  (h : St w0 W (Res.pc cs (i.lv y) fi :: (Res.bx b (pre ++ cs ++ post) e :: @Res.rest α i.toShape v b pre post xs n fr :: rs))) : ∃ fp, St w0 W (@Res.own (List α) (@instShapeList α i.toShape) _ v (xs.set n y) fp :: rs) :=
 St.give (St.pc_cs i h hg).swap
def leT {α : Type} (i : Dsh α) (j : Nat) (xs : List α) (n : Nat) (x : α) (s : S) (K : i.good x → S → Tr) : Tr :=
 match lku s.O j with
 | some (.own i' h xs' _) => .e1 (⟨i', xs'⟩ : Dat) ⟨i.toShape, xs⟩ <| .e0 (Nat.ble 1 i.size) true <| .fn fun G : (Nat × TypeId × List Value) × (List Value × List Nat) =>
   tL (i.lv x) ⟨s.E, (j, .rs i.toShape h G.1.1 G.1.2.2 G.2.1 xs n G.2.2 s.nx) :: dI s.O j, s.B, s.nx + 1⟩ fun scs s2 => .fp (i.good x) fun hg => K hg ⟨s2.E, (s.nx, .bx G.1.1 G.1.2.2 scs G.2.1 G.1.2.1) :: s2.O, s2.B, s2.nx⟩
 | _ => .no
theorem leT_ok {G : Prop} {α : Type} {i : Dsh α} {j : Nat} {xs : List α} {n : Nat} {x : α} (hx : xs[n]? = some x) {s : S} {K : i.good x → S → Tr} {w0 W : World} {f : Nat → Value} (h : (leT i j xs n x s K).holds) (den : Den w0 s f W)
  (k : ∀ hg s', (K hg s').holds → Den w0 s' f W → G) : G := by
 unfold leT at h
 split at h
 ·next i' h' xs' fp hj =>
  obtain ⟨h1, h2, h3⟩ := h
  simp only [Dat.mk.injEq] at h1
  obtain ⟨rfl, h5, h6⟩ := h1
  obtain ⟨rfl, rfl⟩ := And.intro (eq_of_heq h5) (eq_of_heq h6)
  have st1 : St w0 W (Or s.O ++ []) := by simpa [Or, S.rs] using den.st
  obtain ⟨b, e, pre, cs, post, fi, fr, hg, st2⟩ := St.lendG i h2 (st1.take hj) hx
  rw [append_nil] at st2
  refine jV (rs := [Res.bx b (pre ++ cs ++ post) e]) (h3 ((b, e, pre), (post, fr))) st2 fun scs s2 h4 e1 e2 e3 _ st3 hn => k hg _ (h4 hg) ⟨by rw [e2]; exact den.fr, ?_, by rw [e3]; exact den.fa⟩
  rw [← e1] at st3
  exact st3
 exact h.elim
def giT {α : Type} (i : Dsh α) (j : Nat) (xs : List α) (y : α) (s : S) (K : S → Tr) : Tr :=
 match lku s.O j with
 | some (.rs i' h b pre post xs' n _ r) => .e1 (⟨i', xs'⟩ : Dat) ⟨i.toShape, xs⟩ <| match lku (dI s.O j) r with
  | some (.bx b' pre' cs post' _) => .e0 b' b <| .e0 pre' pre <| .e0 post' post <| iQ (dI (dI s.O j) r) cs (i.lv y) fun O' => .fn fun fp : List Nat => K ⟨s.E, (j, .own i.toShape h (xs.set n y) fp) :: O', s.B, s.nx⟩
  | _ => .no
 | _ => .no
theorem giT_ok {G : Prop} {α : Type} {i : Dsh α} {j : Nat} {xs : List α} {y : α} (hy : i.good y) {s : S} {K : S → Tr} {w0 W : World} {f : Nat → Value} (h : (giT i j xs y s K).holds) (den : Den w0 s f W)
  (k : ∀ s', (K s').holds → Den w0 s' f W → G) : G := by
 unfold giT at h
 split at h
 ·next i' h' b pre post xs' n fr r hj =>
  obtain ⟨h1, h2⟩ := h
  simp only [Dat.mk.injEq] at h1
  obtain ⟨rfl, h5, h6⟩ := h1
  obtain ⟨rfl, rfl⟩ := And.intro (eq_of_heq h5) (eq_of_heq h6)
  split at h2
  ·next b' pre' cs post' t hr =>
   obtain ⟨rfl, rfl, rfl, h3⟩ := h2
   have st1 : St w0 W (Or s.O ++ []) := by simpa [Or, S.rs] using den.st
   have st2 := st1.take hj
   have st3 : St w0 W (Or (dI s.O j) ++ [@Res.rest _ i.toShape h'.val b' pre' post' xs' n fr]) := by
    refine st2.perm ?_
    rw [append_nil]
    exact perm_append_comm (l₁ := Or (dI s.O j)) (l₂ := [_])
   have st4 := st3.take hr
   have st5 : St w0 W (Or (dI (dI s.O j) r) ++ [Res.bx b' (pre' ++ cs.map Sc.val ++ post') t, @Res.rest _ i.toShape h'.val b' pre' post' xs' n fr]) :=
    st4.perm (perm_middle (a := Res.bx b' (pre' ++ cs.map Sc.val ++ post') t))
   refine eG h3 st5 fun O' fp h4 st6 => ?_
   have st7 : St w0 W (Res.pc (cs.map Sc.val) (i.lv y) fp :: (Res.bx b' (pre' ++ cs.map Sc.val ++ post') t :: @Res.rest _ i.toShape h'.val b' pre' post' xs' n fr :: Or O')) :=
    st6.perm ((perm_append_comm (l₁ := [Res.bx b' (pre' ++ cs.map Sc.val ++ post') t, @Res.rest _ i.toShape h'.val b' pre' post' xs' n fr]) (l₂ := Or O')).cons _)
   obtain ⟨fp2, st8⟩ := St.giveG i hy st7
   exact k _ (h4 fp2) ⟨den.fr, st8, den.fa⟩
  exact h2.elim
 exact h.elim
end
end Go.Proofs.YtanpcpoogkdlaaaGreat
namespace Go.Proofs.YtanpcpoogkdlaaaGreat
set_option linter.unusedSimpArgs false
set_option linter.unusedVariables false
set_option maxHeartbeats 1000000
set_option maxHeartbeats 2000000
open Go.RowKit Go.Proofs.Tryz List

section
variable {P : Program} {A : Type} {R : A → Prop}
def opd (n : Nat) (s : S) : Operand → Option SV
 | .tmp t => cond (Nat.ble (t + 1) n) (lku s.E t) none
 | .const v => some (one (.vl v))
 | .global _ => none
 | .func g => some (one (.vl (.func (.func g) #[] #[])))
theorem yS {n : Nat} {s : S} {f : Nat → Value} (h : Fr s.E f) (x : Operand) (u : SV) (e : opd n s x = some u) : ev n f x = u.val := by
 cases x with
 | tmp t =>
  simp only [opd] at e
  cases hb : Nat.ble (t + 1) n with
  | true => rw [hb] at e; simp only [ev, hb, cond_true]; exact h t u e
  | false => rw [hb] at e; cases e
 | const v => simp only [opd, Option.some.injEq] at e; subst e; rfl
 | global g => cases e
 | func g => simp only [opd, Option.some.injEq] at e; subst e; rfl
def prp : D P R → S → (S → D P R → Tr) → Tr
 | .ex (p := p) _ k, s, K => .fn fun x => .fp (p x) fun hx => prp (k x hx) s K
 | .oc (p := p) (q := q) _ a b, s, K => .an (.fp p fun h => prp (a h) s K) (.fp q fun h => prp (b h) s K)
 | .ab _, _, _ => .ok
 | .rw i j xs ys _ k, s, K => match lku s.O j with
  | some (.own i' h xs' fp) => .e1 (⟨i', xs'⟩ : Dat) ⟨i, xs⟩ (prp k ⟨s.E, (j, .own i h ys fp) :: dI s.O j, s.B, s.nx⟩ K)
  | some (.row i' e h xs' fe) => .e1 (⟨i', xs'⟩ : Dat) ⟨i, xs⟩ (prp k ⟨s.E, (j, .row i e h ys fe) :: dI s.O j, s.B, s.nx⟩ K)
  | _ => .no
 | .rv t x (y := y) _ k, s, K => match lku s.E t with
  | some v => .e0 v.val y (prp k ⟨(t, one (.vl x)) :: s.E, s.O, s.B, s.nx⟩ K)
  | none => .no
 | .rd i r j xs n _ k, s, K => match lku s.B (r + 2000000), uH s j with
  | some (_, .dv h2 h1 a sz), some (l, h', d) => .e0 h' h1 <| .e0 a n <| .e0 sz i.size <| .e1 d ⟨i, xs⟩ <| .fn fun fp : List Nat => prp k ⟨s.E, s.O, (r, l, .sl i h2 (xs.drop n) fp) :: s.B, s.nx⟩ K
  | _, _ => .no
 | .li i t ys hne hl hg k, s, K => match lku s.E t with
  | some (.on (.ce (.lt j b n))) => match lku s.O j with
   | some (.bx b' pre cs post _) => .e0 b b' <| .e0 pre [] <| .e0 post [] <| .e0 n ys.length <| iQ (dI s.O j) cs (lvs i ys) fun O' => .fn fun fp : List Nat =>
     prp k ⟨(t, one (.rf j ⟨some ⟨b, 0, none⟩, ys.length, ys.length⟩)) :: s.E, (j, .own i.toShape ⟨some ⟨b, 0, none⟩, ys.length, ys.length⟩ ys (b :: fp)) :: O', s.B, s.nx⟩ K
   | _ => .no
  | _ => K s (.li i t ys hne hl hg k)
 | .lr i hp t ys hl hg k, s, K => match lku s.E t with
  | some (.on (.ce (.lt j b n))) => match lku s.O j with
   | some (.bx b' pre cs post te) => .e0 b b' <| .e0 pre [] <| .e0 post [] <| .e0 n ys.length <| iQ (dI s.O j) cs (lvs i ys) fun O' => 
     prp k ⟨(t, one (.rf j ⟨some ⟨b, 0, none⟩, ys.length, ys.length⟩)) :: s.E, (j, .row i.toShape te ⟨some ⟨b, 0, none⟩, ys.length, ys.length⟩ ys []) :: O', s.B, s.nx⟩ K
   | _ => .no
  | _ => K s (.lr i hp t ys hl hg k)
 | .lj i r o ys hne hl hg k, s, K => match lku s.O r with
  | some (.bx b0 pre0 cs0 post0 t0) => match cs0[o]? with
   | some (.lt j b n) => match lku (dI s.O r) j with
    | some (.bx b' pre cs post _) => .e0 b b' <| .e0 pre [] <| .e0 post [] <| .e0 n ys.length <| iQ (dI (dI s.O r) j) cs (lvs i ys) fun O' => .fn fun fp : List Nat =>
      prp k ⟨s.E, (j, .own i.toShape ⟨some ⟨b, 0, none⟩, ys.length, ys.length⟩ ys (b :: fp)) :: (r, .bx b0 pre0 (cs0.set o (.rf j ⟨some ⟨b, 0, none⟩, ys.length, ys.length⟩)) post0 t0) :: O', s.B, s.nx⟩ K
    | _ => .no
   | _ => .no
  | _ => .no
 | .r0 i e k, s, K => prp k ⟨s.E, (s.nx, .row i e ⟨none, 0, 0⟩ [] []) :: s.O, s.B, s.nx + 1⟩ K
 | .rn i e t k, s, K => match lku s.E t with
  | some (.on (.ce (.vl (.slice none 0 0)))) => prp k ⟨(t, one (.rf s.nx ⟨none, 0, 0⟩)) :: s.E, (s.nx, .row i e ⟨none, 0, 0⟩ [] []) :: s.O, s.B, s.nx + 1⟩ K
  | _ => K s (.rn i e t k)
 | .le i j xs n x hx k, s, K => match lku s.O j with
  | some _ => leT i j xs n x s fun hg s => prp (k hg) s K
  | none => K s (.le i j xs n x hx k)
 | .gi i j xs y _ k, s, K => giT i j xs y s fun s => prp k s K
 | d, s, K => K s d
theorem jL {G : Prop} {w0 : World} {f : Nat → Value} {W : World} : ∀ {d : D P R} {s : S} {K : S → D P R → Tr}, (prp d s K).holds → Den w0 s f W → (∀ s' d', (K s' d').holds → Den w0 s' f W → G) → G := by
 intro d
 induction d with
 | ex h k ih =>
  intro s K hh den kk
  obtain ⟨x, hx⟩ := h
  exact ih x hx (hh x hx) den kk
 | oc h a b iha ihb =>
  intro s K hh den kk
  rcases h with h | h
  ·exact iha h (hh.1 h) den kk
  exact ihb h (hh.2 h) den kk
 | ab h => exact fun _ _ _ => h.elim
 | rw i j xs ys he k ih =>
  intro s K hh den kk
  subst he
  unfold prp at hh
  split at hh
  ·next i' h xs' fp hj =>
   obtain ⟨h4, hh⟩ := hh
   simp only [Dat.mk.injEq] at h4
   obtain ⟨rfl, h5, h6⟩ := h4
   obtain ⟨rfl, rfl⟩ := And.intro (eq_of_heq h5) (eq_of_heq h6)
   refine ih hh ⟨den.fr, ?_, den.fa⟩ kk
   have := St.take (rs := []) (by simpa [Or, S.rs] using den.st) hj
   simpa [Or, S.rs] using this
  ·next i' te h xs' fp hj =>
   obtain ⟨h4, hh⟩ := hh
   simp only [Dat.mk.injEq] at h4
   obtain ⟨rfl, h5, h6⟩ := h4
   obtain ⟨rfl, rfl⟩ := And.intro (eq_of_heq h5) (eq_of_heq h6)
   refine ih hh ⟨den.fr, ?_, den.fa⟩ kk
   have := St.take (rs := []) (by simpa [Or, S.rs] using den.st) hj
   simpa [Or, S.rs] using this
  exact hh.elim
 | rv t x he k ih =>
  intro s K hh den kk
  subst he
  unfold prp at hh
  split at hh
  ·next v hv =>
   obtain ⟨h1, hh⟩ := hh
   exact ih hh ⟨den.fr.know t _ ((den.fr t v hv).trans h1), den.st, den.fa⟩ kk
  exact hh.elim
 | rd i r j xs n hn k ih =>
  intro s K hh den kk
  unfold prp at hh
  split at hh
  ·next l0 h2 h1 a sz l h' d hB hS =>
   obtain ⟨rfl, rfl, rfl, rfl, h3⟩ := hh
   have hdv := den.fa _ (kN hB)
   have hdv : h2.val = sliced h'.ao a h'.n h'.cap i.size := by
    cases l0 <;> exact hdv
   obtain ⟨fp, hs⟩ := jE hS den.st den.fa
   obtain ⟨g, hs', _⟩ := aE8 hs hn
   refine ih (h3 g) ⟨den.fr, den.st, fun e he => ?_⟩ kk
   rcases mem_cons.1 he with rfl | he
   ·show Sl _ h2.val _ _
    rw [hdv]
    exact hs'
   exact den.fa e he
  exact hh.elim
 | li i t ys hne hl hg k ih =>
  intro s K hh den kk
  unfold prp at hh
  split at hh
  ·next j b n hE =>
   split at hh
   ·next b' pre cs post t' hj =>
    obtain ⟨rfl, rfl, rfl, rfl, h3⟩ := hh
    have st1 : St w0 W (Or s.O ++ []) := by simpa [Or, S.rs] using den.st
    have st2 := st1.take hj
    have st3 : St w0 W (Or (dI s.O j) ++ [Res.bx b (cs.map Sc.val) t']) := by
     have h4 : St w0 W (Res.bx b ([] ++ cs.map Sc.val ++ []) t' :: (Or (dI s.O j) ++ [])) := st2
     rw [append_nil, append_nil, nil_append] at h4
     exact h4.perm (perm_append_comm (l₁ := Or (dI s.O j)) (l₂ := [_]))
    refine eG h3 st3 fun O' fp h5 st4 => ?_
    have st5 : St w0 W (Res.bx b (cs.map Sc.val) t' :: Res.pc (cs.map Sc.val) (lvs i ys) fp :: Or O') := by
     refine st4.perm ((List.Perm.swap _ _ _).trans ?_)
     exact (perm_append_comm (l₁ := [Res.bx b (cs.map Sc.val) t']) (l₂ := Or O')).cons _
    have st6 := St.lit i hne hl hg st5
    refine ih (h5 fp) ⟨?_, st6, den.fa⟩ kk
    have e := den.fr t _ hE
    exact den.fr.know t _ e
   exact hh.elim
  exact kk _ _ hh den
 | lr i hp t ys hl hg k ih =>
  intro s K hh den kk
  unfold prp at hh
  split at hh
  ·next j b n hE =>
   split at hh
   ·next b' pre cs post t' hj =>
    obtain ⟨rfl, rfl, rfl, rfl, h3⟩ := hh
    have st1 : St w0 W (Or s.O ++ []) := by simpa [Or, S.rs] using den.st
    have st2 := st1.take hj
    have st3 : St w0 W (Or (dI s.O j) ++ [Res.bx b (cs.map Sc.val) t']) := by
     have h4 : St w0 W (Res.bx b ([] ++ cs.map Sc.val ++ []) t' :: (Or (dI s.O j) ++ [])) := st2
     rw [append_nil, append_nil, nil_append] at h4
     exact h4.perm (perm_append_comm (l₁ := Or (dI s.O j)) (l₂ := [_]))
    refine eG h3 st3 fun O' fp h5 st4 => ?_
    have st5 : St w0 W (Res.bx b (cs.map Sc.val) t' :: Res.pc (cs.map Sc.val) (lvs i ys) fp :: Or O') := by
     refine st4.perm ((List.Perm.swap _ _ _).trans ?_)
     exact (perm_append_comm (l₁ := [Res.bx b (cs.map Sc.val) t']) (l₂ := Or O')).cons _
    have st6 := St.litrow i hp hl hg st5
    refine ih h5 ⟨?_, st6, den.fa⟩ kk
    have e := den.fr t _ hE
    exact den.fr.know t _ e
   exact hh.elim
  exact kk _ _ hh den
 | lj i r o ys hne hl hg k ih =>
  intro s K hh den kk
  unfold prp at hh
  split at hh
  ·next b0 pre0 cs0 post0 t0 hr =>
   split at hh
   ·next j b n ho =>
    split at hh
    ·next b' pre cs post t' hj =>
     obtain ⟨rfl, rfl, rfl, rfl, h3⟩ := hh
     have st1 : St w0 W (Or s.O ++ []) := by simpa [Or, S.rs] using den.st
     have st2 := st1.take hr
     have st3 : St w0 W (Or (dI s.O r) ++ [(Ob.bx b0 pre0 cs0 post0 t0).res]) := by
      rw [append_nil] at st2
      exact st2.perm (perm_append_comm (l₁ := Or (dI s.O r)) (l₂ := [_]))
     have st4 := st3.take hj
     have st5 : St w0 W (Or (dI (dI s.O r) j) ++ [Res.bx b (cs.map Sc.val) t', (Ob.bx b0 pre0 cs0 post0 t0).res]) := by
      have h4 : St w0 W (Res.bx b ([] ++ cs.map Sc.val ++ []) t' :: (Or (dI (dI s.O r) j) ++ [(Ob.bx b0 pre0 cs0 post0 t0).res])) := st4
      rw [append_nil, nil_append] at h4
      exact h4.perm (perm_middle (a := Res.bx b (cs.map Sc.val) t') (l₁ := Or (dI (dI s.O r) j)) (l₂ := [(Ob.bx b0 pre0 cs0 post0 t0).res]))
     refine eG h3 st5 fun O' fp h5 st6 => ?_
     have st7 : St w0 W (Res.bx b (cs.map Sc.val) t' :: Res.pc (cs.map Sc.val) (lvs i ys) fp :: ((Ob.bx b0 pre0 cs0 post0 t0).res :: Or O')) := by
      refine st6.perm ((List.Perm.swap _ _ _).trans ?_)
      exact (perm_append_comm (l₁ := [Res.bx b (cs.map Sc.val) t', (Ob.bx b0 pre0 cs0 post0 t0).res]) (l₂ := Or O')).cons _
     have st8 := St.lit i hne hl hg st7
     have e : (Ob.bx b0 pre0 cs0 post0 t0).res = (Ob.bx b0 pre0 (cs0.set o (.rf j ⟨some ⟨b, 0, none⟩, ys.length, ys.length⟩)) post0 t0).res := by
      simp only [Ob.res]
      congr 2
      obtain ⟨hlt, ho⟩ := gsi_.1 ho
      have hs : cs0.map Sc.val = (cs0.map Sc.val).set o ((cs0.map Sc.val)[o]'(by simpa using hlt)) := (set_getElem_self _).symm
      rw [hs, map_set]
      congr 1
      rw [getElem_map, ho]
      rfl
     rw [e] at st8
     exact ih (h5 fp) ⟨den.fr, st8, den.fa⟩ kk
    exact hh.elim
   exact hh.elim
  exact hh.elim
 | r0 i e k ih =>
  intro s K hh den kk
  exact ih hh ⟨den.fr, den.st.row_nil e, den.fa⟩ kk
 | rn i e t k ih =>
  intro s K hh den kk
  unfold prp at hh
  split at hh
  ·next hv =>
   have e1 := den.fr t _ hv
   exact ih hh ⟨den.fr.know t (one (.rf s.nx ⟨none, 0, 0⟩)) e1, den.st.row_nil e, den.fa⟩ kk
  exact kk _ _ hh den
 | le i j xs n x hx k ih =>
  intro s K hh den kk
  unfold prp at hh
  split at hh
  ·exact leT_ok hx hh den fun hg s' h' den' => ih hg h' den' kk
  exact kk _ _ hh den
 | gi i j xs y hy k ih =>
  intro s K hh den kk
  exact giT_ok hy hh den fun s' h' den' => ih h' den' kk
 | _ => exact fun hh den kk => kk _ _ hh den
def isDq : D P R → Bool
 | .dq .. => true
 | _ => false
def isBy : D P R → Bool
 | .by_ .. => true
 | _ => false
def isBs : D P R → Bool
 | .bs .. => true
 | _ => false
def aE0 : D P R → Bool
 | .cm .. => true
 | _ => false
def eop (P : Program) {A : Type} {R : A → Prop} (g : Bool) (lk : Operand → Option SV) (s : S) (o : Op) (d : D P R) (K : SV → S → D P R → Tr) : Tr :=
 match o with
 | .alloc t => alT P s t fun v s => K v s d
 | .box t x => opt (lk x) fun v => bxT s t v fun v s => K v s d
 | .buildSlice t len ps => opt (lkp lk ps.toList) fun vs => bsT P s t len vs d K
 | .store t x y => opt (lk x) fun v => asC v fun c => opt (lk y) fun u => cond g .no (stT P s t c u fun s' => K (one (.vl undef)) s' d)
 | .call ⟨.builtin .append, xs, ts⟩ => match xs.toList, ts.toList with
  | [x, y], [t, t'] => nrm d fun d => match isBs d with
   | true => opt (lk x) fun v => asC v fun c => opt (lk y) fun u => asC u fun cy => cond g .no (abT P s t t' c cy d K)
   | false => .e0 t' t <| opt (lk x) fun v => asC v fun c => opt (lk y) fun u => asC u fun cy => cond g .no (apT P s t c cy d K)
  | _, _ => .no
 | .makeSlice t x y => opt (lk x) fun v => asC v fun c => opt (lk y) fun u => asC u fun cy => mkT P s t c cy fun v s => K v s d
 | .call ⟨.value (.func F), xs, _⟩ => nrm d fun d => match aE0 d with
  | true => cond g .no (cmT s lk F xs.toList d K)
  | false => clT s lk F xs.toList d K
 | .slice t x (some y) none none => nrm d fun d => match isDq d with
  | true => cond g .no (opt (lk x) fun v => asC v fun c => opt (lk y) fun u => asC u fun cy => dqT P s t c cy d K)
  | false => qop P lk s (.slice t x (some y) none none) d K
 | .convert t t' x => nrm d fun d => match isBy d with
  | true => opt (lk x) fun v => asC v fun c => byT P s t t' c d K
  | false => qop P lk s (.convert t t' x) d K
 | o => qop P lk s o d K
def xU : Op → Bool
 | .alloc _ | .box _ _ | .buildSlice _ _ _ | .makeSlice _ _ _ => true
 | .call ⟨.value (.func _), _, _⟩ => true
 | _ => false
theorem zB {w0 : World} {gw : Bool} {s : S} {lk : Operand → Option SV} {o : Op} {dd : D P R} {K : SV → S → D P R → Tr} {n : Nat} {f : Nat → Value} {W : World} {Q : Exit → Act → World → Prop} {KK : Value → World → Prop} {d : Option Tmp} {ty : TypeId} {pos : String} {af : Array Go.Edge} {g : Option (Nat × Bool)}
  (h : (eop P gw lk s o dd K).holds) (hl : ∀ x u, lk x = some u → ev n f x = u.val) (hst : St w0 W s.rs) (hfa : Facts w0 W s.B) (k : ∀ v s' d' W', (K v s' d').holds → s'.E = s.E → (gw = true → (∃ N, s'.O = N ++ s.O) ∧ Below W.heap.size W W') → St w0 W' s'.rs → Facts w0 W' s'.B → KK v.val W') : Stp P n ⟨d, o, ty, pos, af, g⟩ f W Q KK := by
 unfold eop at h
 split at h
 ·exact alT_ok h hst hfa fun v s' W' h' e g1 g2 st' fa' => k v s' _ W' h' e (fun _ => ⟨g1, g2⟩) st' fa'
 ·exact aQ h fun v hv h => bxT_ok (hl _ _ hv) h hst hfa fun v s' W' h' e g1 g2 st' fa' => k v s' _ W' h' e (fun _ => ⟨g1, g2⟩) st' fa'
 ·refine aQ h fun vs hvs h => ?_
  have := bsT_ok (d := d) (ty := ty) (pos := pos) (af := af) (g := g) (Q := Q) (KK := KK) (yV hl hvs) h hst hfa fun v s' d' W' h' e g1 g2 st' fa' => k v s' d' W' h' e (fun _ => ⟨g1, g2⟩) st' fa'
  simpa using this
 ·refine aQ h fun v hv h' => cH h' fun c hc h => aQ h fun u hu h => ?_
  subst hc
  cases gw with
  | true => exact h.elim
  | false =>
   simp only [cond_false] at h
   exact stT_ok (hl _ _ hv) (hl _ _ hu) h hst hfa fun s' W' h' e st' fa' => k (one (.vl undef)) s' _ W' h' e (fun hg => by cases hg) st' fa'
 ·next xs ts =>
  split at h
  ·next x y t t' e1 e2 =>
   have e1 : xs = #[x, y] := by rw [← Array.toArray_toList (xs := xs), e1]
   have e2 : ts = #[t, t'] := by rw [← Array.toArray_toList (xs := ts), e2]
   subst e1 e2
   refine dU h fun d' h => ?_
   split at h
   ·refine aQ h fun v hv h' => cH h' fun c hc h => aQ h fun u hu h'' => cH h'' fun cy hcy h => ?_
    subst hc hcy
    cases gw with
    | true => exact h.elim
    | false =>
     simp only [cond_false] at h
     exact abT_ok (hl _ _ hv) (hl _ _ hu) h hst hfa fun v s' d' W' h' e st' fa' => k v s' d' W' h' e (fun hg => by cases hg) st' fa'
   obtain ⟨rfl, h⟩ := h
   refine aQ h fun v hv h' => cH h' fun c hc h => aQ h fun u hu h'' => cH h'' fun cy hcy h => ?_
   subst hc hcy
   cases gw with
   | true => exact h.elim
   | false =>
    simp only [cond_false] at h
    exact apT_ok (hl _ _ hv) (hl _ _ hu) h hst hfa fun v s' d' W' h' e st' fa' => k v s' d' W' h' e (fun hg => by cases hg) st' fa'
  exact h.elim
 ·refine aQ h fun v hv h' => cH h' fun c hc h => aQ h fun u hu h'' => cH h'' fun cy hcy h => ?_
  subst hc hcy
  exact mkT_ok (hl _ _ hv) (hl _ _ hu) h hst hfa fun v s' W' h' e g1 g2 st' fa' => k v s' _ W' h' e (fun _ => ⟨g1, g2⟩) st' fa'
 ·next F xs ts =>
  refine dU h fun d' h1 => ?_
  split at h1
  ·cases gw with
   | true => exact h1.elim
   | false =>
    simp only [cond_false] at h1
    have := cmT_ok (ats := ts) (d := d) (ty := ty) (pos := pos) (af := af) (g := g) (Q := Q) (KK := KK) hl h1 hst hfa fun v s' d' W' h' e st' fa' => k v s' d' W' h' e (fun hg => by cases hg) st' fa'
    simpa using this
  have := clT_ok (ats := ts) (d := d) (ty := ty) (pos := pos) (af := af) (g := g) (Q := Q) (KK := KK) hl h1 hst hfa fun v s' d' W' h' e g1 g2 st' fa' => k v s' d' W' h' e (fun _ => ⟨g1, g2⟩) st' fa'
  simpa using this
 ·next t x y =>
  refine dU h fun d' h1 => ?_
  split at h1
  ·cases gw with
   | true => exact h1.elim
   | false =>
    simp only [cond_false] at h1
    refine aQ h1 fun v hv h2 => cH h2 fun c hc h3 => aQ h3 fun u hu h4 => cH h4 fun cy hcy h5 => ?_
    subst hc hcy
    exact dqT_ok (hl _ _ hv) (hl _ _ hu) h5 hst hfa fun v s' d' h' e st' fa' => k v s' d' W h' e (fun hg => by cases hg) st' fa'
  refine pR h1 hst hfa fun v s' d' h' e1 e2 fa' q => q hl hst (Below.refl _ _) fun W'' st' hb => k v s' d' W'' h' e1 (fun _ => ⟨⟨[], by rw [e2]; rfl⟩, hb⟩) (by rw [S.rs, e2]; exact st') (fa'.up hb)
 ·next t t' x =>
  refine dU h fun d' h1 => ?_
  split at h1
  ·refine aQ h1 fun v hv h2 => cH h2 fun c hc h3 => ?_
   subst hc
   exact byT_ok (hl _ _ hv) h3 hst hfa fun v s' d' W' h' e1 e2 hb st' fa' => k v s' d' W' h' e1 (fun _ => ⟨⟨[], by rw [e2]; rfl⟩, hb⟩) st' fa'
  refine pR h1 hst hfa fun v s' d' h' e1 e2 fa' q => q hl hst (Below.refl _ _) fun W'' st' hb => k v s' d' W'' h' e1 (fun _ => ⟨⟨[], by rw [e2]; rfl⟩, hb⟩) (by rw [S.rs, e2]; exact st') (fa'.up hb)
 next o h1 h2 h3 h4 h5 h6 h7 h8 h9 =>
 refine pR h hst hfa fun v s' d' h' e1 e2 fa' q => q hl hst (Below.refl _ _) fun W'' st' hb => k v s' d' W'' h' e1 (fun _ => ⟨⟨[], by rw [e2]; rfl⟩, hb⟩) (by rw [S.rs, e2]; exact st') (fa'.up hb)
/-! ### A region's list -/
def putS (d : Option Tmp) (v : SV) (s : S) : S :=
 match d with
 | none => s
 | some t => ⟨(t, v) :: s.E, s.O, s.B, s.nx⟩
theorem Den.put {w0 : World} {s : S} {f : Nat → Value} {W : World} (h : Den w0 s f W) (d : Option Tmp) (v : SV) : Den w0 (putS d v s) (cZ f d v.val) W := by
 cases d with
 | none => exact h
 | some t => exact ⟨h.fr.put t v, h.st, h.fa⟩
def onB (w r : Bool) : Bool := cond w r (!r)
def grd (n : Nat) (all : List Oper) (s : S) (o : Oper) (d : D P R) (K : Bool → S → D P R → Tr) : Tr :=
 match o.guard with
 | none => K true s d
 | some (j, w) => opt ((all[j]?).bind (·.dst)) fun dd => .e0 (Nat.ble (dd + 1) n) true <| opt (lku s.E dd) fun v => match v with
  | .on (.ce (.bo e)) => bl (.bo e) d fun r d => K (onB w r) ⟨(dd, one (.vl (.bool r))) :: s.E, s.O, s.B, s.nx⟩ d
  | .on (.ce c) => K (match yl c.val with
   | some b => onB w b
   | none => false) s d
  | .on (.ag _) => .no
  | .tu _ => .no
def opsT (P : Program) {A : Type} {R : A → Prop} (n : Nat) (all : List Oper) : List Oper → S → D P R → (S → D P R → Tr) → Tr
 | [], s, d, K => K s d
 | o :: os, s, d, K => prp d s fun s d => grd n all s o d fun on s d => match on with
  | true => eop P false (opd n s) s o.op d fun v s d => opsT P n all os (putS o.dst v s) d K
  | false => opsT P n all os (putS o.dst (one (.vl undef)) s) d K
theorem grd_ok {G : Prop} {w0 : World} {n : Nat} {all : List Oper} {s : S} {o : Oper} {d : D P R} {K : Bool → S → D P R → Tr} {f : Nat → Value} {W : World} (h : (grd n all s o d K).holds) (den : Den w0 s f W)
  (k : ∀ on s' d', (K on s' d').holds → Den w0 s' f W → (o.guard = none ∧ on = true ∨ ∃ j w dd, o.guard = some (j, w) ∧ (all.toArray[j]?).bind (·.dst) = some dd ∧ dd < n ∧ (yl (f dd) == some w) = on) → G) : G := by
 unfold grd at h
 split at h
 ·next hg => exact k _ _ _ h den (.inl ⟨hg, rfl⟩)
 next j w hg =>
 refine aQ h fun dd hd h => ?_
 obtain ⟨hn, h⟩ := h
 have hn := Nat.le_of_ble_eq_true hn
 refine aQ h fun v hv h => ?_
 have hf := den.fr dd v hv
 have hd' : (all.toArray[j]?).bind (·.dst) = some dd := by simpa using hd
 split at h
 ·next e =>
  refine aC4 h fun r d' hr h => ?_
  have hr : e = r := by simpa [Sc.val] using hr
  subst hr
  refine k _ _ _ h ⟨den.fr.know dd _ hf, den.st, den.fa⟩ (.inr ⟨j, w, dd, hg, hd', hn, ?_⟩)
  rw [hf]
  show (some e == some w) = _
  cases e <;> cases w <;> rfl
 ·next c _ =>
  refine k _ _ _ h den (.inr ⟨j, w, dd, hg, hd', hn, ?_⟩)
  rw [hf]
  show (yl c.val == some w) = _
  split
  ·next b hb => rw [hb]; cases b <;> cases w <;> rfl
  next hb => rw [hb]; cases w <;> rfl
 ·exact h.elim
 exact h.elim
theorem wL {w0 : World} {n : Nat} {all : List Oper} {Q : Exit → Act → World → Prop} {K : S → D P R → Tr} (k : ∀ s' d' f' W', (K s' d').holds → Den w0 s' f' W' → Q .normal (act n f') W') :
  ∀ {l : List Oper} {s : S} {d : D P R} {f : Nat → Value} {W : World}, (opsT P n all l s d K).holds → Den w0 s f W → Wl P all.toArray Q l n f W
 | [], s, d, f, W, h, den => aB (k _ _ _ _ h den)
 | o :: os, s, d, f, W, h, den => by
  refine jL h den fun s1 d1 h1 den1 => grd_ok h1 den1 fun on s2 d2 h2 den2 hg => ?_
  cases on with
  | true =>
   have hs : Stp P n o f W Q (fun v W' => Wl P all.toArray Q os n (cZ f o.dst v) W') := by
    refine zB (d := o.dst) (ty := o.type) (pos := o.pos) (af := o.after) (g := o.guard) h2 (yS den2.fr) den2.st den2.fa fun v s' d' W' h' e _ st' fa' => ?_
    exact wL k h' (Den.put ⟨by rw [e]; exact den2.fr, st', fa'⟩ o.dst v)
   rcases hg with ⟨hg, _⟩ | ⟨j, w, dd, hg, hd, hn, hy⟩
   ·exact sx hg hs
   exact zR hg hd hn (by simpa using hy) hs
  | false =>
   rcases hg with ⟨_, hx⟩ | ⟨j, w, dd, hg, hd, hn, hy⟩
   ·cases hx
   exact yK hg hd hn hy (wL k h2 (den2.put o.dst (one (.vl undef))))
end
end Go.Proofs.YtanpcpoogkdlaaaGreat
namespace Go.Proofs.YtanpcpoogkdlaaaGreat
set_option linter.unusedSimpArgs false
set_option linter.unusedVariables false
set_option maxRecDepth 100000
set_option maxHeartbeats 2000000
open Go.RowKit Go.Proofs.Tryz List
structure Pv where
 p : (Nat → Value) → Value → Prop
 lk : List Nat
 fr : ∀ {f f' : Nat → Value} {v}, (∀ t ∈ lk, f t = f' t) → p f v → p f' v
structure RP where
 p : (Nat → Value) → Res → Prop
 lk : List Nat
 fr : ∀ {f f' : Nat → Value} {r}, (∀ t ∈ lk, f t = f' t) → p f r → p f' r
def Pv.is (u : Value) : Pv := ⟨fun _ v => v = u, [], fun _ h => h⟩
def Pv.any : Pv := ⟨fun _ _ => True, [], fun _ h => h⟩
def Pv.ex {ι : Type} (g : ι → Value) : Pv := ⟨fun _ v => ∃ x, v = g x, [], fun _ h => h⟩
def RP.is (r : Res) : RP := ⟨fun _ s => s = r, [], fun _ h => h⟩
def RP.of {ι : Type} (ts : List Nat) (e : ι → List Value) (r : ι → Res) : RP := ⟨fun f s => ∃ x, ts.map f = e x ∧ s = r x, ts, fun h ⟨x, e1, e2⟩ => ⟨x, by rw [← e1]; exact map_congr_left (fun t ht => (h t ht).symm), e2⟩⟩
abbrev Tb := List (Option Nat × Option Nat × RP)
def isO (m : Option Nat) (i : Nat) : Bool := match m with | some j => Nat.beq j i | none => false
def gL (D : Nat → Bool) (m u : Option Nat) : Bool := (match m with | some i => D i | none => true) && (match u with | some i => !D i | none => true)
def AL (D : Nat → Bool) : Tb → (Nat → Value) → List Res → Prop
 | [], _, rs => rs = []
 | (m, u, p) :: tb, f, rs => cond (gL D m u) (∃ r rs2, rs = r :: rs2 ∧ p.p f r ∧ AL D tb f rs2) (AL D tb f rs)
def US (i : Nat) : Tb → (Nat → Value) → List Res → Prop
 | [], _, rs => rs = []
 | (_, u, p) :: tb, f, rs => cond (isO u i) (∃ r rs2, rs = r :: rs2 ∧ p.p f r ∧ US i tb f rs2) (US i tb f rs)
def MK (i : Nat) : Tb → (Nat → Value) → List Res → Prop
 | [], _, rs => rs = []
 | (m, _, p) :: tb, f, rs => cond (isO m i) (∃ r rs2, rs = r :: rs2 ∧ p.p f r ∧ MK i tb f rs2) (MK i tb f rs)
def yC (l : List Oper) : Nat → Nat → Nat → Bool
 | 0, i, j => dep l i j
 | k + 1, i, j => dep l i j || (List.range l.length).any (fun m => dep l i m && yC l k m j)
theorem iP {l : List Oper} {D : Nat → Bool} (hD : ∀ j k, D j = true → dep l j k = true → D k = true) : ∀ (k i j : Nat), (∀ m, dep l i m = true → D m = true) → yC l k i j = true → D j = true
 | 0, i, j, h, hd => h j hd
 | k + 1, i, j, h, hd => by
  unfold yC at hd
  rw [Bool.or_eq_true] at hd
  rcases hd with hd | hd
  ·exact h j hd
  ·rw [any_eq_true] at hd
   obtain ⟨m, _, h2⟩ := hd
   rw [Bool.and_eq_true] at h2
   exact iP hD k m j (fun q hq => hD m q (h m h2.1) hq) h2.2
def wC (l : List Oper) (i : Nat) (own : Bool) (t : Nat) : Bool := iO l t || (List.range l.length).any (fun j => ((own && Nat.beq j i) || yC l 2 i j) && (match aZ l j with | some d => Nat.beq d t | none => false))
def tbOk (l : List Oper) (tb : Tb) : Bool :=
 tb.all (fun e => (match e.1 with | some i => Nat.blt i l.length && e.2.2.lk.all (wC l i true) | none => e.2.2.lk.all (iO l)) && (match e.2.1 with | some j => Nat.blt j l.length && (match e.1 with | some i => yC l 2 j i | none => true) | none => true))
def pvOk (l : List Oper) (F : List (Bool × Pv)) (tb : Tb) : Bool :=
 (List.range l.length).all (fun i => ((F.getD i (true, Pv.any)).2.lk.all (wC l i false)) && (!(F.getD i (true, Pv.any)).1 || tb.all (fun e => !isO e.1 i && !isO e.2.1 i)))
section
variable {P : Program} {n : Nat} {w0 w1 : World} {rc : List Res} {Q : Exit → Act → World → Prop}
def aD1 (w0 w1 : World) (rc : List Res) (tb : Tb) (f : Nat → Value) (i : Nat) (o : Oper) (p : Pv) (oth : List Res) (v : Value) (W : World) : Prop :=
 p.p f v ∧ (∃ rm, MK i tb (cZ f o.dst v) rm ∧ St w0 W (rm ++ (rc ++ oth))) ∧ Below w1.heap.size w1 W
def StepF (P : Program) (n : Nat) (w0 w1 : World) (rc : List Res) (Q : Exit → Act → World → Prop) (tb : Tb) (l : List Oper) (F : List (Bool × Pv)) (f0 : Nat → Value) (i : Nat) (o : Oper) (p : Pv) : Prop :=
 ∀ f W ru oth, US i tb f ru → St w0 W (ru ++ (rc ++ oth)) → Below w1.heap.size w1 W → (∀ j d, yC l 2 i j = true → aZ l j = some d → (F.getD j (true, Pv.any)).2.p f (f d)) → (∀ t, iG l i t = true → f t = f0 t) →
  match o.guard with
  | none => Stp P n o f W Q (aD1 w0 w1 rc tb f i o p oth)
  | some _ => cond (onR l f o) (Stp P n o f W Q (aD1 w0 w1 rc tb f i o p oth)) (aD1 w0 w1 rc tb f i o p oth undef W)
def StepQ (P : Program) (n : Nat) (w0 w1 : World) (rc : List Res) (Q : Exit → Act → World → Prop) (l : List Oper) (F : List (Bool × Pv)) (f0 : Nat → Value) (i : Nat) (o : Oper) (p : Pv) : Prop :=
 ∀ f W, St w0 W rc → Below w1.heap.size w1 W → (∀ j d, yC l 2 i j = true → aZ l j = some d → (F.getD j (true, Pv.any)).2.p f (f d)) → (∀ t, iG l i t = true → f t = f0 t) →
  match o.guard with
  | none => Stp P n o f W Q (fun v W' => Below W.heap.size W W' ∧ p.p f v)
  | some _ => cond (onR l f o) (Stp P n o f W Q (fun v W' => Below W.heap.size W W' ∧ p.p f v)) (p.p f undef)
def AllF (P : Program) (n : Nat) (w0 w1 : World) (rc : List Res) (Q : Exit → Act → World → Prop) (tb : Tb) (l : List Oper) (F : List (Bool × Pv)) (f0 : Nat → Value) : Nat → List Oper → List (Bool × Pv) → Prop
 | _, [], [] => True
 | i, o :: os, (q, p) :: ps => cond q (StepQ P n w0 w1 rc Q l F f0 i o p) (StepF P n w0 w1 rc Q tb l F f0 i o p) ∧ AllF P n w0 w1 rc Q tb l F f0 (i + 1) os ps
 | _, _, _ => False
theorem AllF.get {tb : Tb} {l : List Oper} {F : List (Bool × Pv)} {f0 : Nat → Value} : ∀ {os : List Oper} {ps : List (Bool × Pv)} {k : Nat}, AllF P n w0 w1 rc Q tb l F f0 k os ps → ∀ i o, os[i]? = some o → ∃ q p, ps[i]? = some (q, p) ∧ cond q (StepQ P n w0 w1 rc Q l F f0 (k + i) o p) (StepF P n w0 w1 rc Q tb l F f0 (k + i) o p)
 | o :: os, (q, p) :: ps, k, h, 0, o', hi => by simp at hi; subst hi; exact ⟨q, p, rfl, h.1⟩
 | o :: os, (_, _) :: ps, k, h, i + 1, o', hi => by
  obtain ⟨q, p, hq, hs⟩ := AllF.get h.2 i o' (by simpa using hi)
  exact ⟨q, p, by simpa using hq, by rw [← Nat.add_assoc, Nat.add_right_comm]; exact hs⟩
 | [], _, _, _, i, o', hi => by simp at hi
 | o :: os, [], _, h, _, _, _ => h.elim
structure IF_ (w0 w1 : World) (rc : List Res) (tb : Tb) (l : List Oper) (F : List (Bool × Pv)) (f0 : Nat → Value) (D : Nat → Bool) (f : Nat → Value) (W : World) : Prop where
 res : ∃ rs, AL D tb f rs ∧ St w0 W (rs ++ rc)
 bl : Below w1.heap.size w1 W
 vals : ∀ j d, j < l.length → D j = true → aZ l j = some d → (F.getD j (true, Pv.any)).2.p f (f d)
 keep : ∀ t, (∀ j, j < l.length → D j = true → aZ l j ≠ some t) → f t = f0 t
theorem uG {D : Nat → Bool} {i : Nat} {f : Nat → Value} : ∀ {tb : Tb} {rs : List Res}, (∀ e ∈ tb, isO e.2.1 i = true → gL D e.1 e.2.1 = true) → AL D tb f rs → ∃ ru ro, rs.Perm (ru ++ ro) ∧ US i tb f ru ∧ ∀ (D' : Nat → Bool) (f' : Nat → Value), (∀ j, D' j = cond (Nat.beq j i) true (D j)) → D i = false → (∀ e ∈ tb, gL D e.1 e.2.1 = true → ∀ r, e.2.2.p f r → e.2.2.p f' r) →
   ∀ rm, MK i tb f' rm → (∀ e ∈ tb, isO e.1 i = true → isO e.2.1 i = false) → (∀ e ∈ tb, isO e.1 i = true → gL D' e.1 e.2.1 = true) → ∃ rs', AL D' tb f' rs' ∧ rs'.Perm (rm ++ ro)
 | [], rs, _, h => ⟨[], [], by rw [show rs = [] from h]; exact List.Perm.refl _, rfl, fun D' f' _ _ _ rm hm _ _ => ⟨[], rfl, by rw [show rm = [] from hm]; exact List.Perm.refl _⟩⟩
 | (m, u, p) :: tb, rs, hu, h => by
  have hu' : ∀ e ∈ tb, isO e.2.1 i = true → gL D e.1 e.2.1 = true := fun e he => hu e (mem_cons_of_mem _ he)
  unfold AL at h
  cases hl : gL D m u with
  | false =>
   rw [hl] at h
   simp only [cond_false] at h
   have hui : isO u i = false := by
    cases hb : isO u i with
    | false => rfl
    | true => have := hu _ mem_cons_self hb; rw [hl] at this; cases this
   obtain ⟨ru, ro, hp, hus, hk⟩ := uG hu' h
   refine ⟨ru, ro, hp, by unfold US; rw [hui]; exact hus, fun D' f' hD hDi hpf rm hmk hmu hml => ?_⟩
   unfold MK at hmk
   cases hmi : isO m i with
   | true =>
    rw [hmi] at hmk
    simp only [cond_true] at hmk
    obtain ⟨r, rm2, rfl, hr, hmk⟩ := hmk
    obtain ⟨rs', ha, hpe⟩ := hk D' f' hD hDi (fun e he => hpf e (mem_cons_of_mem _ he)) rm2 hmk (fun e he => hmu e (mem_cons_of_mem _ he)) (fun e he => hml e (mem_cons_of_mem _ he))
    refine ⟨r :: rs', ?_, by rw [cons_append]; exact hpe.cons r⟩
    unfold AL
    rw [hml _ mem_cons_self hmi]
    exact ⟨r, rs', rfl, hr, ha⟩
   | false =>
    rw [hmi] at hmk
    simp only [cond_false] at hmk
    obtain ⟨rs', ha, hpe⟩ := hk D' f' hD hDi (fun e he => hpf e (mem_cons_of_mem _ he)) rm hmk (fun e he => hmu e (mem_cons_of_mem _ he)) (fun e he => hml e (mem_cons_of_mem _ he))
    refine ⟨rs', ?_, hpe⟩
    unfold AL
    have : gL D' m u = false := by
     rw [← hl]
     unfold gL
     have e1 : ∀ x, isO (some x) i = false → D' x = D x := fun x hx => by rw [hD]; have : Nat.beq x i = false := hx; rw [this]; rfl
     cases m with
     | none => cases u with
      | none => rfl
      | some y => simp only [e1 y hui]
     | some x => cases u with
      | none => simp only [e1 x hmi]
      | some y => simp only [e1 x hmi, e1 y hui]
    rw [this]; exact ha
  | true =>
   rw [hl] at h
   simp only [cond_true] at h
   obtain ⟨r, rs2, rfl, hr, h⟩ := h
   obtain ⟨ru, ro, hp, hus, hk⟩ := uG hu' h
   have hmi : D i = false → isO m i = false := fun hDi => by
    cases m with
    | none => rfl
    | some x =>
     cases hb : Nat.beq x i with
     | false => exact hb
     | true =>
      have e := Nat.eq_of_beq_eq_true hb
      subst e
      simp [gL, hDi] at hl
   cases hui : isO u i with
   | true =>
    refine ⟨r :: ru, ro, by rw [cons_append]; exact hp.cons r, by unfold US; rw [hui]; exact ⟨r, ru, rfl, hr, hus⟩, fun D' f' hD hDi hpf rm hmk hmu hml => ?_⟩
    unfold MK at hmk
    rw [hmi hDi] at hmk
    obtain ⟨rs', ha, hpe⟩ := hk D' f' hD hDi (fun e he => hpf e (mem_cons_of_mem _ he)) rm hmk (fun e he => hmu e (mem_cons_of_mem _ he)) (fun e he => hml e (mem_cons_of_mem _ he))
    refine ⟨rs', ?_, hpe⟩
    unfold AL
    have : gL D' m u = false := by
     cases u with
     | none => cases hui
     | some y =>
      have : D' y = true := by rw [hD]; have : Nat.beq y i = true := hui; rw [this]; rfl
      unfold gL
      simp [this]
    rw [this]; exact ha
   | false =>
    refine ⟨ru, r :: ro, (hp.cons r).trans perm_middle.symm, by unfold US; rw [hui]; exact hus, fun D' f' hD hDi hpf rm hmk hmu hml => ?_⟩
    unfold MK at hmk
    have hm0 := hmi hDi
    rw [hm0] at hmk
    obtain ⟨rs', ha, hpe⟩ := hk D' f' hD hDi (fun e he => hpf e (mem_cons_of_mem _ he)) rm hmk (fun e he => hmu e (mem_cons_of_mem _ he)) (fun e he => hml e (mem_cons_of_mem _ he))
    refine ⟨r :: rs', ?_, (hpe.cons r).trans perm_middle.symm⟩
    unfold AL
    have : gL D' m u = true := by
     rw [← hl]
     unfold gL
     have e1 : ∀ x, isO (some x) i = false → D' x = D x := fun x hx => by rw [hD]; have : Nat.beq x i = false := hx; rw [this]; rfl
     cases m with
     | none => cases u with
      | none => rfl
      | some y => simp only [e1 y hui]
     | some x => cases u with
      | none => simp only [e1 x hm0]
      | some y => simp only [e1 x hm0, e1 y hui]
    rw [this]
    exact ⟨r, rs', rfl, hpf _ mem_cons_self hl r hr, ha⟩
theorem keepF {tb : Tb} {l : List Oper} {F : List (Bool × Pv)} {f0 : Nat → Value} (ho : OrdOk n l) (htb : tbOk l tb = true) (hpv : pvOk l F tb = true) (hs : AllF P n w0 w1 rc Q tb l F f0 0 l F) : KeepI P n Q l (IF_ w0 w1 rc tb l F f0) := by
 constructor
 intro i o D f W hol hDi hdep hdown hI
 have hiN : i < l.length := (gsi_.1 hol).1
 obtain ⟨q, p, hp, hstep⟩ := hs.get i o hol
 rw [Nat.zero_add] at hstep
 have hpF : F.getD i (true, Pv.any) = (q, p) := by rw [getD_eq_getElem?_getD, hp]; rfl
 have hdo : aZ l i = o.dst := by simp [aZ, hol]
 rw [tbOk, all_eq_true] at htb
 rw [pvOk, all_eq_true] at hpv
 obtain ⟨rs, hAL, hst⟩ := hI.res
 have hdp : ∀ j d, yC l 2 i j = true → aZ l j = some d → (F.getD j (true, Pv.any)).2.p f (f d) := fun j d hj hd => hI.vals j d (by
  unfold aZ at hd
  cases hq : l[j]? with
  | none => rw [hq] at hd; cases hd
  | some x => exact (gsi_.1 hq).1) (iP hdown 2 i j hdep hj) hd
 have hkp : ∀ t, iG l i t = true → f t = f0 t := fun t hk => by
  refine hI.keep t (fun j hjN hj hd => ?_)
  unfold iG at hk
  rw [all_eq_true] at hk
  have := hk j (by simpa using hjN)
  rw [hd] at this
  simp only [dW, Bool.not_true, Bool.or_false, Bool.or_eq_true] at this
  rcases this with h | h
  ·rw [Nat.eq_of_beq_eq_true h, hDi] at hj; cases hj
  have := hdown j i hj h
  rw [hDi] at this; cases this
 have hput : ∀ v t, o.dst ≠ some t → cZ f o.dst v t = f t := by
  intro v t h
  cases hod : o.dst with
  | none => rfl
  | some d' =>
   simp only [cZ, upd]
   rw [gG (fun e' => h (by rw [hod, e']))]; rfl
 -- slots that are looked at are not this one's
 have hslot : ∀ j own, D j = true ∨ (own = false ∧ j = i) → ∀ t, wC l j own t = true → o.dst ≠ some t := by
  intro j own hj t ht e
  unfold wC at ht
  rw [Bool.or_eq_true] at ht
  rcases ht with ht | ht
  ·exact kQ ht i hiN (by rw [hdo]; exact e)
  rw [any_eq_true] at ht
  obtain ⟨k, hkN, h2⟩ := ht
  rw [mem_range] at hkN
  rw [Bool.and_eq_true] at h2
  have hkd : aZ l k = some t := by
   have := h2.2
   split at this
   ·next d hd => rw [hd, Nat.eq_of_beq_eq_true this]
   cases this
  have hkD : D k = true := by
   have h3 := h2.1
   rw [Bool.or_eq_true, Bool.and_eq_true] at h3
   rcases hj with hj | ⟨rfl, rfl⟩
   ·rcases h3 with h3 | h3
    ·rw [Nat.eq_of_beq_eq_true h3.2]; exact hj
    exact iP hdown 2 j k (fun m hm => hdown j m hj hm) h3
   rcases h3 with h3 | h3
   ·cases h3.1
   exact iP hdown 2 j k hdep h3
  have hki : k ≠ i := fun e' => by rw [e', hDi] at hkD; cases hkD
  exact ho.ne k i t hkN hiN hki hkd (by rw [hdo]; exact e)
 have hDs : ∀ j, eA D i j = cond (Nat.beq j i) true (D j) := fun _ => rfl
 have hpc : ∀ v W', (∃ rs', AL (eA D i) tb (cZ f o.dst v) rs' ∧ St w0 W' (rs' ++ rc)) → Below w1.heap.size w1 W' → p.p f v → IF_ w0 w1 rc tb l F f0 (eA D i) (cZ f o.dst v) W' := by
  intro v W' hr hb hv
  refine ⟨hr, hb, ?_, ?_⟩
  ·intro j d hjN hj hd
   by_cases e : j = i
   ·subst e
    rw [hpF]
    rw [hdo] at hd
    have e3 : cZ f o.dst v d = v := by rw [hd]; simp only [cZ, upd, dW, cond_true]
    rw [e3]
    refine p.fr (fun t ht => ?_) hv
    have h1 := hpv j (by simpa using hjN)
    rw [hpF, Bool.and_eq_true, all_eq_true] at h1
    exact (hput v t (hslot j false (.inr ⟨rfl, rfl⟩) t (h1.1 t ht))).symm
   have hjD : D j = true := by rw [hDs, gG e] at hj; exact hj
   have hold := hI.vals j d hjN hjD hd
   rw [hput v d (fun e' => ho.ne j i d hjN hiN e hd (by rw [hdo]; exact e'))]
   refine (F.getD j (true, Pv.any)).2.fr (fun t ht => ?_) hold
   have h1 := hpv j (by simpa using hjN)
   rw [Bool.and_eq_true, all_eq_true] at h1
   exact (hput v t (hslot j false (.inl hjD) t (h1.1 t ht))).symm
  intro t hk
  have hne : o.dst ≠ some t := by rw [← hdo]; exact hk i hiN (by rw [hDs, dW]; rfl)
  rw [hput v t hne]
  refine hI.keep t (fun j hjN hj => hk j hjN ?_)
  rw [hDs]
  cases Nat.beq j i with
  | true => rfl
  | false => exact hj
 have hlv : ∀ e ∈ tb, gL D e.1 e.2.1 = true → ∀ v r, e.2.2.p f r → e.2.2.p (cZ f o.dst v) r := by
  intro e he hl v r hr
  refine e.2.2.fr (fun t ht => ?_) hr
  have h1 := htb e he
  rw [Bool.and_eq_true] at h1
  obtain ⟨h1, _⟩ := h1
  cases hm : e.1 with
  | none =>
   rw [hm] at h1
   simp only [all_eq_true] at h1
   exact (hput v t (fun e' => kQ (h1 t ht) i hiN (by rw [hdo]; exact e'))).symm
  | some j =>
   rw [hm] at h1 hl
   simp only [Bool.and_eq_true, all_eq_true] at h1
   unfold gL at hl
   rw [Bool.and_eq_true] at hl
   exact (hput v t (hslot j true (.inl hl.1) t (h1.2 t ht))).symm
 cases q with
 | true =>
  simp only [cond_true] at hstep
  have hno : ∀ e ∈ tb, isO e.1 i = false ∧ isO e.2.1 i = false := by
   have h1 := hpv i (by simpa using hiN)
   rw [hpF, Bool.and_eq_true] at h1
   have h2 := h1.2
   simp only [Bool.not_true, Bool.false_or, all_eq_true, Bool.and_eq_true, Bool.not_eq_true'] at h2
   exact h2
  have hAL2 : ∀ v, AL (eA D i) tb (cZ f o.dst v) rs := by
   intro v
   have key : ∀ (tb : Tb) (rs : List Res), (∀ e ∈ tb, isO e.1 i = false ∧ isO e.2.1 i = false) → (∀ e ∈ tb, gL D e.1 e.2.1 = true → ∀ r, e.2.2.p f r → e.2.2.p (cZ f o.dst v) r) → AL D tb f rs → AL (eA D i) tb (cZ f o.dst v) rs := by
    intro tb
    induction tb with
    | nil => intro rs _ _ h; exact h
    | cons e tb ih =>
     obtain ⟨m, u, p⟩ := e
     intro rs h1 h2 h
     have hm := (h1 _ mem_cons_self).1
     have hu := (h1 _ mem_cons_self).2
     have e1 : ∀ x, isO (some x) i = false → eA D i x = D x := fun x hx => by rw [hDs]; have : Nat.beq x i = false := hx; rw [this]; rfl
     have hl : gL (eA D i) m u = gL D m u := by
      unfold gL
      cases m with
      | none => cases u with
       | none => rfl
       | some y => simp only [e1 y hu]
      | some x => cases u with
       | none => simp only [e1 x hm]
       | some y => simp only [e1 x hm, e1 y hu]
     unfold AL at h ⊢
     rw [hl]
     cases hlv2 : gL D m u with
     | true =>
      rw [hlv2] at h
      obtain ⟨r, rs2, e, hr, h⟩ := h
      exact ⟨r, rs2, e, h2 _ mem_cons_self hlv2 r hr, ih rs2 (fun x hx => h1 x (mem_cons_of_mem _ hx)) (fun x hx => h2 x (mem_cons_of_mem _ hx)) h⟩
     | false =>
      rw [hlv2] at h
      exact ih rs (fun x hx => h1 x (mem_cons_of_mem _ hx)) (fun x hx => h2 x (mem_cons_of_mem _ hx)) h
   exact key tb rs hno (fun e he hl r hr => hlv e he hl v r hr) hAL
  have hrc : St w0 W rc := by have := hst.sub (sublist_append_right rs rc); exact this
  have h1 := hstep f W hrc hI.bl hdp hkp
  have hfin : ∀ v W', Below W.heap.size W W' ∧ p.p f v → IF_ w0 w1 rc tb l F f0 (eA D i) (cZ f o.dst v) W' := fun v W' h => hpc v W' ⟨rs, hAL2 v, by simpa using hst.call (St.of_below h.1)⟩ (hI.bl.trans (h.1.mono hI.bl.size)) h.2
  cases hg : o.guard with
  | none =>
   rw [hg] at h1
   have : onR l f o = true := by unfold onR; rw [hg]
   rw [this]
   exact Stp.mono h1 hfin
  | some jw =>
   rw [hg] at h1
   simp only at h1
   cases hon : onR l f o with
   | true => rw [hon] at h1; exact Stp.mono h1 hfin
   | false => rw [hon] at h1; exact hfin undef W ⟨Below.refl _ _, h1⟩
 | false =>
  simp only [cond_false] at hstep
  have hu : ∀ e ∈ tb, isO e.2.1 i = true → gL D e.1 e.2.1 = true := by
   intro e he hui
   have h1 := htb e he
   rw [Bool.and_eq_true] at h1
   obtain ⟨_, h1⟩ := h1
   cases hu2 : e.2.1 with
   | none => rw [hu2] at hui; cases hui
   | some y =>
    rw [hu2] at h1 hui
    have hyi : y = i := Nat.eq_of_beq_eq_true hui
    subst hyi
    rw [Bool.and_eq_true] at h1
    unfold gL
    simp only [hDi, Bool.not_false, Bool.and_true]
    cases hm : e.1 with
    | none => rfl
    | some x =>
     rw [hm] at h1
     exact iP hdown 2 y x hdep h1.2
  obtain ⟨ru, ro, hpe, hus, hk⟩ := uG hu hAL
  have hmu : ∀ e ∈ tb, isO e.1 i = true → isO e.2.1 i = false := by
   intro e he hmi
   cases hb : isO e.2.1 i with
   | false => rfl
   | true =>
    have := hu e he hb
    cases hm : e.1 with
    | none => rw [hm] at hmi; cases hmi
    | some x =>
     rw [hm] at hmi this
     have e := Nat.eq_of_beq_eq_true (show Nat.beq x i = true from hmi)
     subst e
     simp [gL, hDi] at this
  have hml : ∀ e ∈ tb, isO e.1 i = true → gL (eA D i) e.1 e.2.1 = true := by
   intro e he hmi
   have hui := hmu e he hmi
   have h1 := htb e he
   rw [Bool.and_eq_true] at h1
   obtain ⟨_, h1⟩ := h1
   cases hm : e.1 with
   | none => rw [hm] at hmi; cases hmi
   | some x =>
    rw [hm] at hmi h1
    have hxi : x = i := Nat.eq_of_beq_eq_true hmi
    subst hxi
    unfold gL
    have e1 : eA D x x = true := by rw [hDs, dW]; rfl
    simp only [e1, Bool.true_and]
    cases hu2 : e.2.1 with
    | none => rfl
    | some y =>
     rw [hu2] at h1 hui
     simp only [Bool.and_eq_true] at h1
     have hyx : Nat.beq y x = false := hui
     show (!eA D x y) = true
     rw [hDs, hyx]
     simp only [cond_false]
     cases hy : D y with
     | false => rfl
     | true =>
      exfalso
      have := iP hdown 2 y x (fun m hm => hdown y m hy hm) h1.2
      rw [hDi] at this; cases this
  have hst2 : St w0 W (ru ++ (rc ++ ro)) := by
   refine hst.perm (List.Perm.trans ?_ (hpe.symm.append_right rc))
   rw [append_assoc]
   exact (List.Perm.refl ru).append perm_append_comm
  have h1 := hstep f W ru ro hus hst2 hI.bl hdp hkp
  have hfin : ∀ v W', aD1 w0 w1 rc tb f i o p ro v W' → IF_ w0 w1 rc tb l F f0 (eA D i) (cZ f o.dst v) W' := by
   rintro v W' ⟨hv, ⟨rm, hmk, hs2⟩, hb⟩
   obtain ⟨rs', ha, hp2⟩ := hk (eA D i) (cZ f o.dst v) hDs hDi (fun e he hl r hr => hlv e he hl v r hr) rm hmk hmu hml
   refine hpc v W' ⟨rs', ha, hs2.perm ?_⟩ hb hv
   refine (hp2.append_right rc).trans ?_
   rw [append_assoc]
   exact (List.Perm.refl rm).append perm_append_comm
  cases hg : o.guard with
  | none =>
   rw [hg] at h1
   have : onR l f o = true := by unfold onR; rw [hg]
   rw [this]
   exact Stp.mono h1 hfin
  | some jw =>
   rw [hg] at h1
   simp only at h1
   cases hon : onR l f o with
   | true => rw [hon] at h1; exact Stp.mono h1 hfin
   | false => rw [hon] at h1; exact hfin undef W h1
theorem rA {id : Nat} {l : List Oper} (k : Nat) (tb : Tb) {W : World} {f0 : Nat → Value} (F : List (Bool × Pv)) (hm : P.follows .mixedOrders = true) (ho : nA n (l.take k) = true) (hT : ((l.drop k).isEmpty || lI (l.take k) (l.drop k)) = true) (htb : tbOk (l.take k) tb = true) (hpv : pvOk (l.take k) F tb = true)
  {rs0 : List Res} (h0 : AL (fun _ => false) tb f0 rs0) (hst : St w0 W (rs0 ++ rc)) (hb : Below w1.heap.size w1 W) (hs : AllF P n w0 w1 rc Q tb (l.take k) F f0 0 (l.take k) F)
  (fin : ∀ f W' rs', AL (fun _ => true) tb f rs' → St w0 W' (rs' ++ rc) → Below w1.heap.size w1 W' → (∀ i d, i < (l.take k).length → aZ (l.take k) i = some d → (F.getD i (true, Pv.any)).2.p f (f d)) → (∀ t, iO (l.take k) t = true → f t = f0 t) → Wl P l.toArray Q (l.drop k) n f W') :
  (Code.region id l.toArray true).wp P Q (act n f0) W := by
 have hbd : Below W.heap.size W { W with drawn := W.drawn + 1 } := (Below.refl _ _).drew
 refine qZ k (IF_ w0 w1 rc tb (l.take k) F f0) hm ho hT ⟨⟨rs0, h0, by simpa using hst.call (St.of_below hbd)⟩, hb.trans (hbd.mono hb.size), fun j d _ h => (nomatch h), fun _ _ => rfl⟩ (keepF (OrdOk.of ho) htb hpv hs) ?_
 intro D f W' hD hI
 obtain ⟨rs', hAL, hst'⟩ := hI.res
 have hAt : AL (fun _ => true) tb f rs' := by
  have key : ∀ (tb : Tb) (rs : List Res), (∀ e ∈ tb, (∀ i, e.1 = some i → i < (l.take k).length) ∧ (∀ i, e.2.1 = some i → i < (l.take k).length)) → AL D tb f rs → AL (fun _ => true) tb f rs := by
   intro tb
   induction tb with
   | nil => intro rs _ h; exact h
   | cons e tb ih =>
    obtain ⟨m, u, p⟩ := e
    intro rs h1 h
    have hl : gL (fun _ => true) m u = gL D m u := by
     unfold gL
     have h2 := h1 _ mem_cons_self
     cases m with
     | none => cases u with
      | none => rfl
      | some y => simp only [hD y (h2.2 y rfl)]
     | some x => cases u with
      | none => simp only [hD x (h2.1 x rfl)]
      | some y => simp only [hD x (h2.1 x rfl), hD y (h2.2 y rfl)]
    unfold AL at h ⊢
    rw [hl]
    cases hlv2 : gL D m u with
    | true =>
     rw [hlv2] at h
     obtain ⟨r, rs2, e, hr, h⟩ := h
     exact ⟨r, rs2, e, hr, ih rs2 (fun x hx => h1 x (mem_cons_of_mem _ hx)) h⟩
    | false =>
     rw [hlv2] at h
     exact ih rs (fun x hx => h1 x (mem_cons_of_mem _ hx)) h
  refine key tb rs' ?_ hAL
  intro e he
  rw [tbOk, all_eq_true] at htb
  have h1 := htb e he
  rw [Bool.and_eq_true] at h1
  refine ⟨fun i hi => ?_, fun i hi => ?_⟩
  ·rw [hi] at h1; have := h1.1; simp only [Bool.and_eq_true] at this; exact iZ this.1
  rw [hi] at h1; have := h1.2; simp only [Bool.and_eq_true] at this; exact iZ this.1
 exact fin f W' rs' hAt hst' hI.bl (fun i d hi hd => hI.vals i d hi (hD i hi) hd) (fun t ht => hI.keep t (fun i hi _ => kQ ht i hi))
theorem mq_ {A P : Prop} (z : A) (h : A → P := by intro z f W hst hbl hd hf; exact aG (Eq.trans (hf _ (by rfl)) z) brq) : P := h z
theorem fq_ {A B P : Prop} (y : B) (z : A) (h : B → A → P := by intro y z f W hst hbl hd hf; exact bD y (Eq.trans (hf _ (by rfl)) z) brq) : P := h y z
end
end Go.Proofs.YtanpcpoogkdlaaaGreat
namespace Go.Proofs.YtanpcpoogkdlaaaGreat
set_option linter.unusedSimpArgs false
set_option linter.unusedVariables false
set_option maxHeartbeats 1000000
set_option maxHeartbeats 2000000
open Go.RowKit Go.Proofs.Tryz List

def aH1 (l : List Oper) (j t : Nat) : Bool :=
 match aZ l j with
 | some d => Nat.beq d t
 | none => false
theorem isDst_ok {l : List Oper} {j t : Nat} (h : aH1 l j t = true) : aZ l j = some t := by
 unfold aH1 at h
 split at h
 ·next d hd => rw [hd, Nat.eq_of_beq_eq_true h]
 cases h
def lkD (n : Nat) (l : List Oper) (E0 V : List (Nat × SV)) (i : Nat) : Operand → Option SV
 | .tmp t => cond (Nat.ble (t + 1) n) (match (List.range l.length).find? (fun j => dep l i j && aH1 l j t) with
  | some j => lku V j
  | none => cond (iG l i t) (lku E0 t) none) none
 | .const v => some (one (.vl v))
 | .global _ => none
 | .func g => some (one (.vl (.func (.func g) #[] #[])))
def isX : Op → Bool
 | .alloc _ | .box _ _ | .buildSlice _ _ _ | .store _ _ _ | .makeSlice _ _ _ => true
 | .call ⟨.value (.func _), _, _⟩ => true
 | .call ⟨.builtin .append, _, _⟩ => true
 | .call ⟨.builtin .copy, _, _⟩ => true
 | .call ⟨.builtin .clear, _, _⟩ => true
 | _ => false
def aG2 (l : List Oper) (done : List Nat) (p : Op → Bool) : Option Nat :=
 (List.range l.length).find? fun i => !done.contains i && (match l[i]? with
  | some o => p o.op
  | none => false) && (List.range l.length).all fun j => !dep l i j || done.contains j
def tU (l : List Oper) : Nat → List Nat → List Nat
 | 0, _ => []
 | k + 1, done => match aG2 l done (fun o => !isX o) with
  | some i => i :: tU l k (i :: done)
  | none => match aG2 l done (fun _ => true) with
   | some i => i :: tU l k (i :: done)
   | none => []
def cK {α : Type u} (V : List (Nat × α)) : List Nat := V.map (·.1)
def aE2 (l : List Oper) (j : Nat) : List Nat := (List.range l.length).foldl (fun acc i => cond (acc.any fun k => dep l i k) (i :: acc) acc) [j]
def zF (l : List Oper) (is : List Nat) (i : Nat) : Bool := is.all fun q => (aE2 l i).contains q
def pnd (l : List Oper) (done : List Nat) (i : Nat) (g : Bool) : List Nat := cond g [] (done.filter fun j => !(aE2 l j).contains i)
section
variable {P : Program} {A : Type} {R : A → Prop}
def grdD (V : List (Nat × SV)) (o : Oper) (d : D P R) (K : Bool → List (Nat × SV) → D P R → Tr) : Tr :=
 match o.guard with
 | none => K true V d
 | some (j, w) => opt (lku V j) fun v => match v with
  | .on (.ce (.bo e)) => bl (.bo e) d fun r d => K (onB w r) ((j, one (.vl (.bool r))) :: V) d
  | .on (.ce c) => K (match yl c.val with
   | some b => onB w b
   | none => false) V d
  | .on (.ag _) => .no
  | .tu _ => .no
def rrT (P : Program) {A : Type} {R : A → Prop} (n : Nat) (l : List Oper) (E0 V : List (Nat × SV)) (s : S) (d : D P R) : List Nat → Tr → Tr
 | [], k => k
 | j :: js, k => opt (l[j]?) fun o => opt (lku V j) fun x => .e0 o.guard.isNone true <| qop P (lkD n l E0 V j) s o.op d fun v _ _ => .e0 v.val x.val (rrT P n l E0 V s d js k)
def drT (P : Program) {A : Type} {R : A → Prop} (n : Nat) (l : List Oper) (E0 : List (Nat × SV)) : List Nat → List (Nat × SV) → S → D P R → (List (Nat × SV) → S → D P R → Tr) → Tr
 | [], V, s, d, K => K V s d
 | i :: is, V, s, d, K => opt (l[i]?) fun o => .e0 (lku V i).isNone true <| grdD V o d fun on V d => match on with
  | true => nrm d fun d => match isX o.op && zF l is i with
   | true => eop P (xU o.op && !aE0 d) (lkD n l E0 V i) s o.op d fun v s d' => rrT P n l E0 ((i, v) :: V) s d' (pnd l (cK V) i (xU o.op && !aE0 d)) (drT P n l E0 is ((i, v) :: V) s d' K)
   | false => qop P (lkD n l E0 V i) s o.op d fun v s d => drT P n l E0 is ((i, v) :: V) s d K
  | false => drT P n l E0 is ((i, one (.vl undef)) :: V) s d K
def pY (l : List Oper) (V : List (Nat × SV)) : List Nat → List (Nat × SV)
 | [] => []
 | j :: js => match aZ l j, lku V j with
  | some d, some x => (d, x) :: pY l V js
  | _, _ => pY l V js
def aH9 (P : Program) {A : Type} {R : A → Prop} (n : Nat) (l : List Oper) (s : S) (d : D P R) (K : S → D P R → Tr) : Tr :=
 prp d s fun s d => .e0 (P.follows .mixedOrders && nA n l) true <| .e0 ((List.range l.length).all fun i => (tU l l.length []).contains i) true <|
  drT P n l s.E (tU l l.length []) [] s d fun V s' d => K ⟨pY l V (List.range l.length) ++ s.E, s'.O, s'.B, s'.nx⟩ d

/-! ### It is so -/
def FIa (l : List Oper) (V : List (Nat × SV)) (D : Nat → Bool) (f : Nat → Value) : Prop := ∀ j x d, lku V j = some x → D j = true → aZ l j = some d → f d = x.val
def FIb (l : List Oper) (f0 : Nat → Value) (D : Nat → Bool) (f : Nat → Value) : Prop := ∀ t, (∀ j, D j = true → aZ l j ≠ some t) → f t = f0 t
def uF (l : List Oper) (D : Nat → Bool) : Prop := ∀ j k, D j = true → dep l j k = true → D k = true
theorem tH {n : Nat} {l : List Oper} {E0 V : List (Nat × SV)} {i : Nat} {D : Nat → Bool} {f0 f : Nat → Value} (hE : Fr E0 f0) (hi : D i = false) (hd : ∀ j, dep l i j = true → D j = true) (hc : uF l D) (ha : FIa l V D f) (hb : FIb l f0 D f) (x : Operand) (u : SV) (e : lkD n l E0 V i x = some u) : ev n f x = u.val := by
 cases x with
 | tmp t =>
  simp only [lkD] at e
  cases hn : Nat.ble (t + 1) n with
  | false => rw [hn] at e; cases e
  | true =>
   rw [hn] at e
   simp only [ev, hn, cond_true] at e ⊢
   split at e
   ·next j hj =>
    have := find?_some hj
    simp only [Bool.and_eq_true] at this
    exact ha j u t e (hd j this.1) (isDst_ok this.2)
   cases hk : iG l i t with
   | false => rw [hk] at e; cases e
   | true =>
    rw [hk] at e
    rw [hb t fun j hj hdj => ?_]
    ·exact hE t u e
    unfold iG at hk
    rw [all_eq_true] at hk
    have hjl : j < l.length := by
     unfold aZ at hdj
     cases hq : l[j]? with
     | none => rw [hq] at hdj; cases hdj
     | some o => exact (gsi_.1 hq).1
    have := hk j (mem_range.2 hjl)
    rw [hdj] at this
    simp only [dW, Bool.not_true, Bool.or_false, Bool.or_eq_true] at this
    rcases this with h | h
    ·rw [Nat.eq_of_beq_eq_true h] at hj; rw [hj] at hi; cases hi
    have := hc j i hj h; rw [hi] at this; cases this
 | const v => simp only [lkD, Option.some.injEq] at e; subst e; rfl
 | global g => cases e
 | func g => simp only [lkD, Option.some.injEq] at e; subst e; rfl
theorem mA {l : List Oper} {D : Nat → Bool} (hc : uF l D) {i q : Nat} (h : (aE2 l i).contains q = true) (hq : q ≠ i) (hd : ∀ m, dep l q m = true → D m = true) : D i = true := by
 have key : ∀ (r acc : List Nat), (∀ q ∈ acc, (D q = true → D i = true) ∧ (q = i ∨ ∃ m, dep l q m = true ∧ (D m = true → D i = true))) → ∀ q ∈ r.foldl (fun acc i => cond (acc.any fun k => dep l i k) (i :: acc) acc) acc, (D q = true → D i = true) ∧ (q = i ∨ ∃ m, dep l q m = true ∧ (D m = true → D i = true)) := by
  intro r
  induction r with
  | nil => exact fun acc h => h
  | cons a r ih =>
   intro acc h
   refine ih _ ?_
   show ∀ q ∈ cond (acc.any fun k => dep l a k) (a :: acc) acc, _
   cases ha : acc.any fun k => dep l a k with
   | false => exact h
   | true =>
    show ∀ q ∈ a :: acc, _
    intro q hq
    rcases mem_cons.1 hq with rfl | hq
    ·obtain ⟨k, hk, hdk⟩ := any_eq_true.1 ha
     have := (h k hk).1
     exact ⟨fun hD => this (hc _ _ hD hdk), .inr ⟨k, hdk, this⟩⟩
    exact h q hq
 have := key (List.range l.length) [i] (fun q hq => by rw [mem_singleton] at hq; subst hq; exact ⟨id, .inl rfl⟩) q (by simpa [aE2] using h)
 rcases this.2 with rfl | ⟨m, hm, h2⟩
 ·exact absurd rfl hq
 exact h2 (hd m hm)
def Ext (V V2 : List (Nat × SV)) : Prop := ∀ j x, lku V j = some x → ∃ x', lku V2 j = some x' ∧ x'.val = x.val
theorem Ext.refl (V : List (Nat × SV)) : Ext V V := fun j x h => ⟨x, h, rfl⟩
theorem Ext.trans {A B C : List (Nat × SV)} (h : Ext A B) (k : Ext B C) : Ext A C := fun j x hx => by
 obtain ⟨x', h1, h2⟩ := h j x hx
 obtain ⟨x'', h3, h4⟩ := k j x' h1
 exact ⟨x'', h3, h4.trans h2⟩
theorem Ext.new {V : List (Nat × SV)} {i : Nat} {v : SV} (h : lku V i = none) : Ext V ((i, v) :: V) := fun j x hx => by
 refine ⟨x, ?_, rfl⟩
 unfold lku
 rw [gG (fun e => by rw [e, h] at hx; cases hx)]
 exact hx
theorem Ext.know {V : List (Nat × SV)} {i : Nat} {v v' : SV} (h : lku V i = some v) (e : v'.val = v.val) : Ext V ((i, v') :: V) := fun j x hx => by
 by_cases hj : j = i
 ·subst hj
  rw [h] at hx; cases hx
  exact ⟨v', by unfold lku; rw [Nat.beq_refl]; rfl, e⟩
 ·exact ⟨x, by unfold lku; rw [gG hj]; exact hx, rfl⟩
theorem FIa.of_ext {l : List Oper} {V V2 : List (Nat × SV)} {D : Nat → Bool} {f : Nat → Value} (h : FIa l V2 D f) (e : Ext V V2) : FIa l V D f := fun j x d hx hj hd => by
 obtain ⟨x', h1, h2⟩ := e j x hx
 rw [h j x' d h1 hj hd, h2]
def Pnd (P : Program) (n : Nat) (Q : Exit → Act → World → Prop) (w0 : World) (l : List Oper) (f0 : Nat → Value) (V : List (Nat × SV)) (s : S) (W : World) (j : Nat) : Prop :=
 ∃ x o, lku V j = some x ∧ l[j]? = some o ∧ ∀ D f W', D j = false → (∀ k, dep l j k = true → D k = true) → uF l D → FIa l V D f → FIb l f0 D f → St w0 W' s.rs → Below W.heap.size W W' →
  cond (onR l f o) (∀ KK : Value → World → Prop, (∀ W'', Below W'.heap.size W' W'' → KK x.val W'') → Stp P n o f W' Q KK) (x.val = undef)
theorem Pnd.mono {n : Nat} {Q : Exit → Act → World → Prop} {w0 : World} {l : List Oper} {f0 : Nat → Value} {V V2 : List (Nat × SV)} {s s2 : S} {W W2 : World} {j : Nat} (h : Pnd P n Q w0 l f0 V s W j) (e : Ext V V2) (hs : ∃ N, s2.O = N ++ s.O) (hb : Below W.heap.size W W2) : Pnd P n Q w0 l f0 V2 s2 W2 j := by
 obtain ⟨x, o, h1, h2, h3⟩ := h
 obtain ⟨x', h4, h5⟩ := e j x h1
 refine ⟨x', o, h4, h2, fun D f W' a b c d g st b2 => ?_⟩
 obtain ⟨N, hN⟩ := hs
 have := h3 D f W' a b c (d.of_ext e) g (st.sub (by rw [S.rs, S.rs, hN, map_append]; exact sublist_append_right _ _)) (hb.trans (b2.mono hb.size))
 rw [h5]
 exact this
def Stg (P : Program) {A : Type} {R : A → Prop} (n : Nat) (l : List Oper) (E0 : List (Nat × SV)) (K : List (Nat × SV) → S → D P R → Tr) (is : List Nat) (V : List (Nat × SV)) (s : S) (d : D P R) : Prop :=
 match is with
 | [] => (K V s d).holds
 | i :: is => ∃ o g, l[i]? = some o ∧ lku V i = none ∧ zF l is i = true ∧ (eop P g (lkD n l E0 V i) s o.op d fun v s d => rrT P n l E0 ((i, v) :: V) s d (pnd l (cK V) i g) (drT P n l E0 is ((i, v) :: V) s d K)).holds ∧
   ∀ D f, (∀ k, dep l i k = true → D k = true) → FIa l V D f → onR l f o = true
theorem grdD_ok {G : Prop} {n : Nat} {l : List Oper} (ho : OrdOk n l) {V : List (Nat × SV)} {i : Nat} {o : Oper} {d : D P R} {K : Bool → List (Nat × SV) → D P R → Tr} (hi : l[i]? = some o) (h : (grdD V o d K).holds)
  (k : ∀ on V2 d', (K on V2 d').holds → Ext V V2 → (∀ j, j ∈ cK V2 ↔ j ∈ cK V) → (∀ D f, (∀ k, dep l i k = true → D k = true) → FIa l V2 D f → onR l f o = on) → G) : G := by
 unfold grdD at h
 split at h
 ·next hg => exact k _ _ _ h (Ext.refl V) (fun _ => Iff.rfl) fun D f _ _ => by unfold onR; rw [hg]
 next j w hg =>
 obtain ⟨hdj, dd, hdd⟩ := ho.guard i o j w hi hg
 refine aQ h fun v hv h => ?_
 split at h
 ·next e =>
  refine aC4 h fun r d' hr h => ?_
  have hr : e = r := by simpa [Sc.val] using hr
  subst hr
  refine k _ _ _ h (Ext.know hv rfl) (fun q => ?_) fun D f hd ha => ?_
  ·simp only [cK, map_cons, mem_cons]
   exact ⟨fun h => h.elim (fun e => by rw [e]; exact mem_map.2 ⟨_, kN hv, rfl⟩) id, .inr⟩
  have := ha j _ dd (by unfold lku; rw [Nat.beq_refl]; rfl) (hd j hdj) hdd
  unfold onR
  rw [hg]
  simp only [hdd]
  rw [this]
  show (some e == some w) = _
  cases e <;> cases w <;> rfl
 ·next c _ =>
  refine k _ _ _ h (Ext.refl V) (fun _ => Iff.rfl) fun D f hd ha => ?_
  have := ha j _ dd hv (hd j hdj) hdd
  unfold onR
  rw [hg]
  simp only [hdd]
  rw [this]
  show (yl c.val == some w) = _
  split
  ·next b hb => rw [hb]; cases b <;> cases w <;> rfl
  next hb => rw [hb]; cases w <;> rfl
 ·exact h.elim
 exact h.elim
theorem lku_none {α : Type u} {V : List (Nat × α)} {j : Nat} : lku V j = none ↔ j ∉ cK V := by
 induction V with
 | nil => simp [lku, cK]
 | cons p V ih =>
  obtain ⟨i, v⟩ := p
  unfold lku
  by_cases h : j = i
  ·subst h; rw [Nat.beq_refl]; simp [cK]
  rw [gG h]
  simp only [cond_false, cK, map_cons, mem_cons, not_or]
  exact ih.trans ⟨fun a => ⟨h, a⟩, fun a => a.2⟩
theorem yN {n : Nat} {l : List Oper} {Q : Exit → Act → World → Prop} {w0 W : World} {E0 V : List (Nat × SV)} {f0 : Nat → Value} (hE : Fr E0 f0) {s : S} {d : D P R} (st : St w0 W s.rs) (fa : Facts w0 W s.B) :
  ∀ {js : List Nat} {k : Tr}, (rrT P n l E0 V s d js k).holds → (∀ j ∈ js, Pnd P n Q w0 l f0 V s W j) ∧ k.holds
 | [], k, h => ⟨fun j hj => (by cases hj), h⟩
 | j :: js, k, h => aQ h fun o ho h => aQ h fun x hx h => by
  obtain ⟨hg, h⟩ := h
  refine pR h st fa fun v s3 d3 h3 e3 e4 fa3 q => ?_
  obtain ⟨hv, h4⟩ := h3
  obtain ⟨h5, h6⟩ := yN hE st fa h4
  refine ⟨fun j' hj' => ?_, h6⟩
  rcases mem_cons.1 hj' with rfl | hj'
  ·refine ⟨x, o, hx, ho, fun D f W' a b c d' e' st' hb => ?_⟩
   have hon : onR l f o = true := by
    unfold onR
    cases hgg : o.guard with
    | none => rfl
    | some p => rw [hgg] at hg; cases hg
   rw [hon]
   intro KK kk
   rw [← hv] at kk
   exact q (d := o.dst) (ty := o.type) (pos := o.pos) (af := o.after) (g := o.guard) (tH hE a b c d' e') st' hb (fun W'' _ hb2 => kk W'' hb2)
  exact h5 j' hj'
theorem aI5 {n : Nat} {l : List Oper} (ho : OrdOk n l) {Q : Exit → Act → World → Prop} {w0 : World} {E0 : List (Nat × SV)} {f0 : Nat → Value} (hE : Fr E0 f0) {K : List (Nat × SV) → S → D P R → Tr} {G : Prop} :
  ∀ {is : List Nat} {V : List (Nat × SV)} {s : S} {d : D P R} {W : World}, (drT P n l E0 is V s d K).holds → St w0 W s.rs → Facts w0 W s.B →
   (∀ is2 V2 s2 d2, Stg P n l E0 K is2 V2 s2 d2 → St w0 W s2.rs → Facts w0 W s2.B → s2.O = s.O → Ext V V2 → (∀ j, j ∈ cK V2 ∨ j ∈ is2 ↔ j ∈ cK V ∨ j ∈ is) → (∀ j ∈ is2, j ∈ is) → (∀ j ∈ cK V2, j ∈ cK V ∨ Pnd P n Q w0 l f0 V2 s2 W j) → G) → G := by
 intro is
 induction is with
 | nil => exact fun h st fa k => k [] _ _ _ h st fa rfl (Ext.refl _) (fun _ => Iff.rfl) (fun _ h => h) (fun j hj => .inl hj)
 | cons i is ih =>
  intro V s d W h st fa k
  refine aQ h fun o hi h => ?_
  obtain ⟨hn, h⟩ := h
  have hn : lku V i = none := by simpa using hn
  refine grdD_ok ho hi h fun on V2 d2 h2 e2 hk2 hon => ?_
  have hn2 : lku V2 i = none := lku_none.2 fun hm => lku_none.1 hn ((hk2 i).1 hm)
  have mem3 : ∀ {v : SV} j, j ∈ cK ((i, v) :: V2) ∨ j ∈ is ↔ j ∈ cK V ∨ j ∈ i :: is := fun {v} j => by
   simp only [cK, map_cons, mem_cons]
   have := hk2 j
   simp only [cK] at this
   rw [this]
   constructor
   ·rintro ((h | h) | h)
    ·exact .inr (.inl h)
    ·exact .inl h
    exact .inr (.inr h)
   rintro (h | h | h)
   ·exact .inl (.inr h)
   ·exact .inl (.inl h)
   exact .inr h
  -- a step of what only reads, or is not done at all
  have go : ∀ {v : SV} {s3 : S} {d3 : D P R}, (drT P n l E0 is ((i, v) :: V2) s3 d3 K).holds → s3.O = s.O → Facts w0 W s3.B → Pnd P n Q w0 l f0 ((i, v) :: V2) s3 W i → G := fun {v s3 d3} h3 eO fa3 hp => by
   refine ih h3 (by rw [S.rs, eO]; exact st) fa3 fun is4 V4 s4 d4 g1 g2 g3 g4 g5 g6 g7 g8 => k is4 V4 s4 d4 g1 g2 g3 (g4.trans eO) (e2.trans ((Ext.new hn2).trans g5)) (fun j => (g6 j).trans (mem3 j)) (fun j hj => mem_cons_of_mem _ (g7 j hj)) fun j hj => ?_
   rcases g8 j hj with h | h
   ·simp only [cK, map_cons, mem_cons] at h
    rcases h with rfl | h
    ·exact .inr (hp.mono g5 ⟨[], by rw [g4]; rfl⟩ (Below.refl _ _))
    exact .inl ((hk2 j).1 h)
   exact .inr h
  cases on with
  | false =>
   refine go h2 rfl fa ⟨_, o, by unfold lku; rw [Nat.beq_refl]; rfl, hi, fun D f W' a b c d' e' st' hb => ?_⟩
   rw [hon D f b (d'.of_ext (Ext.new hn2))]
   exact rfl
  | true =>
   refine dU h2 fun d2 h2 => ?_
   cases hx : isX o.op && zF l is i with
   | true =>
    rw [hx] at h2
    rw [Bool.and_eq_true] at hx
    refine k (i :: is) V2 s d2 ⟨o, _, hi, hn2, hx.2, h2, fun D f hd ha => hon D f hd ha⟩ st fa rfl e2 (fun j => ?_) (fun _ h => h) (fun j hj => .inl ((hk2 j).1 hj))
    rw [hk2 j]
   | false =>
    rw [hx] at h2
    refine pR h2 st fa fun v s3 d3 h3 e3 e4 fa3 q => go h3 e4 fa3 ⟨_, o, by unfold lku; rw [Nat.beq_refl]; rfl, hi, fun D f W' a b c d' e' st' hb => ?_⟩
    have ha2 := d'.of_ext (Ext.new hn2)
    rw [hon D f b ha2]
    intro KK kk
    exact q (d := o.dst) (ty := o.type) (pos := o.pos) (af := o.after) (g := o.guard) (tH hE a b c ha2 e') (by rw [S.rs, ← e4]; exact st') hb (fun W'' _ hb2 => kk W'' hb2)
def IDr (P : Program) {A : Type} {R : A → Prop} (n : Nat) (Q : Exit → Act → World → Prop) (w0 : World) (l : List Oper) (E0 : List (Nat × SV)) (f0 : Nat → Value) (K : List (Nat × SV) → S → D P R → Tr) (D : Nat → Bool) (f : Nat → Value) (W : World) : Prop :=
 ∃ is V s d, Stg P n l E0 K is V s d ∧ St w0 W s.rs ∧ Facts w0 W s.B ∧ FIa l V D f ∧ FIb l f0 D f ∧ (∀ j, j < l.length → j ∈ cK V ∨ j ∈ is) ∧ (∀ j ∈ is, D j = false) ∧ (∀ j, D j = true → j ∈ cK V) ∧ ∀ j ∈ cK V, D j = false → Pnd P n Q w0 l f0 V s W j
theorem keepDr {n : Nat} {l : List Oper} (ho : OrdOk n l) {Q : Exit → Act → World → Prop} {w0 : World} {E0 : List (Nat × SV)} {f0 : Nat → Value} (hE : Fr E0 f0) {K : List (Nat × SV) → S → D P R → Tr} : KeepI P n Q l (IDr P n Q w0 l E0 f0 K) := by
 refine ⟨fun i o D f W hi hDi hd hc ⟨is, V, s, d, hs, st, fa, ha, hb, hcov, hnd, hkd, hp⟩ => ?_⟩
 have hil : i < l.length := (gsi_.1 hi).1
 have hc : uF l D := hc
 have setD_t : ∀ j, eA D i j = true → j = i ∨ D j = true := fun j h => by
  unfold eA at h
  by_cases hj : j = i
  ·exact .inl hj
  rw [gG hj] at h; exact .inr h
 have setD_f : ∀ j, j ≠ i → eA D i j = D j := fun j hj => by unfold eA; rw [gG hj]; rfl
 -- the frame behind it
 have frame : ∀ {V2 : List (Nat × SV)} {x : SV}, Ext V V2 → (∀ j, D j = true → j ∈ cK V) → lku V2 i = some x → FIa l V2 (eA D i) (cZ f o.dst x.val) ∧ FIb l f0 (eA D i) (cZ f o.dst x.val) := fun {V2 x} hV2 hk hx => by
  have hdo : aZ l i = o.dst := by unfold aZ; rw [hi]; rfl
  constructor
  ·intro j u t hu hj ht
   rcases setD_t j hj with rfl | hj
   ·rw [hx] at hu
    cases hu
    rw [hdo] at ht
    rw [ht]
    show upd f t x.val t = x.val
    unfold upd; rw [Nat.beq_refl]; rfl
   have hji : j ≠ i := fun e => by rw [e, hDi] at hj; cases hj
   obtain ⟨u0, h0, e0⟩ : ∃ u0, lku V j = some u0 ∧ u.val = u0.val := by
    cases hq : lku V j with
    | none => exact absurd (hk j hj) (lku_none.1 hq)
    | some u0 =>
     obtain ⟨u1, h1, h2⟩ := hV2 j u0 hq
     rw [hu] at h1; cases h1
     exact ⟨u0, rfl, h2⟩
   have hf := ha j u0 t h0 hj ht
   rw [e0, ← hf]
   cases hod : o.dst with
   | none => rfl
   | some t' =>
    show upd f t' x.val t = f t
    unfold upd
    have hjl : j < l.length := by
     unfold aZ at ht
     cases hq : l[j]? with
     | none => rw [hq] at ht; cases ht
     | some o => exact (gsi_.1 hq).1
    rw [gG fun e => ho.ne j i t hjl hil hji ht (by rw [hdo, hod, e])]
    rfl
  intro t ht
  have h1 : f t = f0 t := hb t fun j hj => ht j (by
   by_cases hji : j = i
   ·rw [hji, hDi] at hj; cases hj
   rw [setD_f j hji]; exact hj)
  have h2 : aZ l i ≠ some t := ht i (by unfold eA; rw [Nat.beq_refl]; rfl)
  rw [hdo] at h2
  rw [← h1]
  cases hod : o.dst with
  | none => rfl
  | some t' =>
   show upd f t' x.val t = f t
   unfold upd
   rw [gG fun e => h2 (by rw [hod, e])]
   rfl
 rcases hcov i hil with hik | his
 ·-- it has been read
  obtain ⟨x, o', hx, ho', hstep⟩ := hp i hik hDi
  rw [hi] at ho'
  cases ho'
  have hq := hstep D f W hDi hd hc ha hb st (Below.refl _ _)
  have next : ∀ W'', Below W.heap.size W W'' → IDr P n Q w0 l E0 f0 K (eA D i) (cZ f o.dst x.val) W'' := fun W'' hb2 => by
   obtain ⟨fa1, fb1⟩ := frame (Ext.refl V) hkd hx
   have st2 : St w0 W'' s.rs := by simpa using st.call (St.of_below hb2)
   refine ⟨is, V, s, d, hs, st2, fa.up hb2, fa1, fb1, hcov, fun j hj => ?_, fun j hj => ?_, fun j hj hDj => ?_⟩
   ·rw [setD_f j fun e => ?_]
    ·exact hnd j hj
    subst e
    match is, hs, hj with
    | i0 :: is', ⟨o0, g0, h1, h2, h3, h4, h5⟩, hj =>
     rcases mem_cons.1 hj with e | hj
     ·subst e; exact lku_none.1 h2 hik
     unfold zF at h3
     rw [all_eq_true] at h3
     by_cases e : j = i0
     ·subst e; exact lku_none.1 h2 hik
     have := mA hc (h3 j hj) e hd
     rw [hnd i0 (by simp)] at this; cases this
   ·rcases setD_t j hj with rfl | hj
    ·exact hik
    exact hkd j hj
   have hji : j ≠ i := fun e => by rw [e] at hDj; unfold eA at hDj; rw [Nat.beq_refl] at hDj; cases hDj
   rw [setD_f j hji] at hDj
   exact (hp j hj hDj).mono (Ext.refl V) ⟨[], rfl⟩ hb2
  cases hon : onR l f o with
  | true =>
   rw [hon] at hq
   exact hq _ fun W'' hb2 => next W'' hb2
  | false =>
   rw [hon] at hq
   have hq : x.val = undef := hq
   have := next W (Below.refl _ _)
   rw [hq] at this
   exact this
 -- it is the one that is barred
 match is, hs, his, hcov, hnd with
 | i0 :: is', ⟨o0, g0, h1, h2, h3, h4, h5⟩, his, hcov, hnd =>
  unfold zF at h3
  rw [all_eq_true] at h3
  have hii : i = i0 := by
   rcases mem_cons.1 his with e | hm
   ·exact e
   apply Classical.byContradiction
   intro e
   have := mA hc (h3 i hm) e hd
   rw [hnd i0 (by simp)] at this; cases this
  subst hii
  rw [hi] at h1
  cases h1
  rw [h5 D f hd ha]
  refine zB (d := o.dst) (ty := o.type) (pos := o.pos) (af := o.after) (g := o.guard) h4 (tH hE hDi hd hc ha hb) st fa fun v s1 d1 W1 h6 e6 g6 st1 fa1 => ?_
  obtain ⟨hrr, h6⟩ := yN (Q := Q) hE st1 fa1 h6
  refine aI5 ho hE (Q := Q) h6 st1 fa1 fun is2 V2 s2 d2 k1 k2 k3 k4 k5 k6 k7 k8 => ?_
  obtain ⟨x, hx, ex⟩ := k5 i v (by unfold lku; rw [Nat.beq_refl]; rfl)
  have hext : Ext V V2 := (Ext.new h2).trans k5
  obtain ⟨fa2, fb2⟩ := frame hext hkd hx
  rw [ex] at fa2 fb2
  refine ⟨is2, V2, s2, d2, k1, k2, k3, fa2, fb2, fun j hj => ?_, fun j hj => ?_, fun j hj => ?_, fun j hj hDj => ?_⟩
  ·refine (k6 j).2 ?_
   rcases hcov j hj with h | h
   ·exact .inl (by simp only [cK, map_cons, mem_cons]; exact .inr h)
   rcases mem_cons.1 h with e | h
   ·exact .inl (by simp only [cK, map_cons, mem_cons]; exact .inl e)
   exact .inr h
  ·have hj' := k7 j hj
   by_cases e : j = i
   ·subst e
    have := (k6 j).1 (.inr hj)
    -- it stands among those that are read
    exfalso
    match is2, k1, hj with
    | i2 :: is3, ⟨o2, g2, q1, q2, q3, q4, q5⟩, hj =>
     have hjk : j ∈ cK V2 := Classical.byContradiction fun h => by
      rw [lku_none.2 h] at hx; cases hx
     rcases mem_cons.1 hj with e | hj
     ·subst e; exact lku_none.1 q2 hjk
     unfold zF at q3
     rw [all_eq_true] at q3
     by_cases e : j = i2
     ·subst e; exact lku_none.1 q2 hjk
     have hb2 := mA hc (q3 j hj) e hd
     rw [hnd i2 (mem_cons_of_mem _ (k7 i2 (by simp)))] at hb2; cases hb2
   rw [setD_f j e]
   exact hnd j (mem_cons_of_mem _ hj')
  ·have hjv : j ∈ cK ((i, v) :: V) := by
    simp only [cK, map_cons, mem_cons]
    rcases setD_t j hj with e | hj
    ·exact .inl e
    exact .inr (hkd j hj)
   apply Classical.byContradiction
   intro hno
   cases hq : lku ((i, v) :: V) j with
   | none => exact lku_none.1 hq hjv
   | some u =>
    obtain ⟨u', hu', _⟩ := k5 j u hq
    rw [lku_none.2 hno] at hu'; cases hu'
  rcases k8 j hj with h | h
  ·have hji : j ≠ i := fun e => by rw [e] at hDj; unfold eA at hDj; rw [Nat.beq_refl] at hDj; cases hDj
   rw [setD_f j hji] at hDj
   simp only [cK, map_cons, mem_cons] at h
   rcases h with e | h
   ·exact absurd e hji
   cases hg : g0 with
   | true =>
    obtain ⟨⟨N, hN⟩, hb1⟩ := g6 hg
    exact (hp j h hDj).mono hext ⟨N, by rw [k4, hN]⟩ hb1
   | false =>
    by_cases hcj : (aE2 l j).contains i = true
    ·have := mA hc hcj (fun e => hji e.symm) hd
     rw [hDj] at this; cases this
    refine (hrr j ?_).mono k5 ⟨[], by rw [k4]; rfl⟩ (Below.refl _ _)
    rw [hg]
    show j ∈ (cK V).filter _
    rw [mem_filter]
    exact ⟨h, by simpa using hcj⟩
  exact h
theorem nS {l : List Oper} {V E0 : List (Nat × SV)} {t : Nat} {x : SV} : ∀ {js : List Nat}, (∀ j ∈ js, j ∈ cK V) → lku (pY l V js ++ E0) t = some x → (∃ j, lku V j = some x ∧ aZ l j = some t) ∨ (lku E0 t = some x ∧ ∀ j ∈ js, aZ l j ≠ some t)
 | [], _, h => .inr ⟨h, fun j hj => by cases hj⟩
 | a :: js, hc, h => by
  have ih := nS (l := l) (E0 := E0) (t := t) (x := x) (js := js) fun j hj => hc j (mem_cons_of_mem _ hj)
  cases hda : aZ l a with
  | none =>
   have e : pY l V (a :: js) = pY l V js := by simp [pY, hda]
   rw [e] at h
   rcases ih h with h | ⟨h1, h2⟩
   ·exact .inl h
   refine .inr ⟨h1, fun j hj => ?_⟩
   rcases mem_cons.1 hj with rfl | hj
   ·rw [hda]; exact fun e => by cases e
   exact h2 j hj
  | some d =>
   cases hv : lku V a with
   | none => exact absurd (hc a (by simp)) (lku_none.1 hv)
   | some v =>
    have e : pY l V (a :: js) = (d, v) :: pY l V js := by simp [pY, hda, hv]
    rw [e, cons_append] at h
    unfold lku at h
    by_cases htd : t = d
    ·subst htd
     rw [Nat.beq_refl] at h
     simp only [cond_true, Option.some.injEq] at h
     subst h
     exact .inl ⟨a, hv, hda⟩
    rw [gG htd] at h
    rcases ih h with h | ⟨h1, h2⟩
    ·exact .inl h
    refine .inr ⟨h1, fun j hj => ?_⟩
    rcases mem_cons.1 hj with rfl | hj
    ·rw [hda]; exact fun e => by cases e; exact htd rfl
    exact h2 j hj
theorem drawT_ok {w0 W : World} {n id : Nat} {l : List Oper} {s : S} {d : D P R} {K : S → D P R → Tr} {f : Nat → Value} {Q : Exit → Act → World → Prop} (h : (aH9 P n l s d K).holds) (den : Den w0 s f W) (k : ∀ s' d' f' W', (K s' d').holds → Den w0 s' f' W' → Q .normal (act n f') W') : (Code.region id l.toArray true).wp P Q (act n f) W := by
 refine jL h den fun s1 d1 h1 den1 => ?_
 obtain ⟨h2, h3, h4⟩ := h1
 rw [Bool.and_eq_true] at h2
 rw [all_eq_true] at h3
 have ho := OrdOk.of h2.2
 let K' : List (Nat × SV) → S → D P R → Tr := fun V s' d => K ⟨pY l V (List.range l.length) ++ s1.E, s'.O, s'.B, s'.nx⟩ d
 have hb0 : Below W.heap.size W { W with drawn := W.drawn + 1 } := (Below.refl _ _).drew
 refine qZ l.length (IDr P n Q w0 l s1.E f K') h2.1 (by rw [take_length]; exact h2.2) (by rw [drop_length]; rfl) ?_ (by rw [take_length]; exact keepDr ho den1.fr) ?_
 ·have st0 : St w0 { W with drawn := W.drawn + 1 } s1.rs := by simpa using den1.st.call (St.of_below hb0)
  refine aI5 ho den1.fr (Q := Q) (K := K') h4 st0 (den1.fa.up hb0) fun is2 V2 s2 d2 k1 k2 k3 k4 k5 k6 k7 k8 => (⟨is2, V2, s2, d2, k1, k2, k3, fun j x d _ hD _ => (by cases hD), fun t _ => rfl, fun j hj => (k6 j).2 (.inr (by simpa using h3 j (mem_range.2 hj))), fun _ _ => rfl, fun j hD => (by cases hD), fun j hj _ => ?_⟩)
  rcases k8 j hj with h | h
  ·cases h
  exact h
 intro D g W' hD ⟨is, V, s2, d2, hs, st, fa, ha, hb, hcov, hnd, hkd, hp⟩
 rw [take_length] at hD
 rw [drop_length]
 match is, hs, hcov, hnd with
 | i0 :: is', ⟨o0, g0, q1, _⟩, hcov, hnd =>
  have := hD i0 (gsi_.1 q1).1
  rw [hnd i0 (by simp)] at this; cases this
 | [], hs, hcov, hnd =>
  have hs : (K' V s2 d2).holds := hs
  refine aB (k _ _ _ _ hs ⟨?_, st, fa⟩)
  have hc2 : ∀ j ∈ List.range l.length, j ∈ cK V := fun j hj => (hcov j (mem_range.1 hj)).elim (fun h => h) (fun h => by cases h)
  intro t x hx
  rcases nS hc2 hx with ⟨j, h5, h6⟩ | ⟨h5, h6⟩
  ·refine ha j x t h5 (hD j ?_) h6
   unfold aZ at h6
   cases hq : l[j]? with
   | none => rw [hq] at h6; cases h6
   | some o => exact (gsi_.1 hq).1
  rw [hb t fun j hDj hj => h6 j ?_ hj]
  ·exact den1.fr t x h5
  unfold aZ at hj
  cases hq : l[j]? with
  | none => rw [hq] at hj; cases hj
  | some o => exact mem_range.2 (gsi_.1 hq).1
end
end Go.Proofs.YtanpcpoogkdlaaaGreat
namespace Go.Proofs.YtanpcpoogkdlaaaGreat
set_option linter.unusedSimpArgs false
set_option linter.unusedVariables false
set_option maxHeartbeats 1000000
set_option maxHeartbeats 2000000
open Go.RowKit Go.Proofs.Tryz List
def wS (l : List Oper) : List Nat → Bool
 | [] => true
 | i :: is => (match l[i]? with
  | some o => !isX o.op || zF l is i
  | none => true) && wS l is
def aE1 (l : List Oper) (done : List Nat) (i : Nat) : Bool := (List.range l.length).all fun j => !dep l i j || done.contains j
def isQ (l : List Oper) (i : Nat) : Bool :=
 match l[i]? with
 | some o => !isX o.op
 | none => false
def aA6 (l : List Oper) (is done : List Nat) : Option Nat := is.find? fun i => aE1 l done i && isQ l i
def wo (is : List Nat) (i : Nat) : List Nat := is.filter fun j => !Nat.beq j i
theorem mem_wo {is : List Nat} {i j : Nat} : j ∈ wo is i ↔ j ∈ is ∧ j ≠ i := by
 unfold wo
 rw [mem_filter]
 by_cases h : j = i
 ·subst h; simp [Nat.beq_refl]
 simp [h, gG h]
def brA (f : Nat → Tr) : List Nat → Tr
 | [] => .ok
 | i :: is => .an (f i) (brA f is)
theorem zG {f : Nat → Tr} : ∀ {is : List Nat}, (brA f is).holds → ∀ i ∈ is, (f i).holds
 | [], _, i, hi => by cases hi
 | a :: is, h, i, hi => by
  rcases mem_cons.1 hi with rfl | hi
  ·exact h.1
  ·exact zG h.2 i hi
section
variable {P : Program} {A : Type} {R : A → Prop}
def brT (P : Program) {A : Type} {R : A → Prop} (n : Nat) (l : List Oper) (E0 : List (Nat × SV)) (base : Nat) (K : List (Nat × SV) → S → D P R → Tr) : Nat → List Nat → List (Nat × SV) → S → D P R → Tr
 | 0, _, _, _, _ => .no
 | m + 1, is, V, s, d => match aA6 l is (cK V) with
  | some i => opt (l[i]?) fun o => .e0 o.guard.isNone true <| qop P (lkD n l E0 V i) s o.op d fun v s d => brT P n l E0 base K m (wo is i) ((i, v) :: V) s d
  | none => match is with
   | [] => K V ⟨s.E, s.O, s.B, base + 20 * l.length⟩ d
   | _ :: _ => brA (fun i => opt (l[i]?) fun o => .e0 o.guard.isNone true <| .e0 (lku V i).isNone true <| nrm d fun d => eop P (xU o.op && !aE0 d) (lkD n l E0 V i) ⟨s.E, s.O, s.B, base + 20 * i⟩ o.op d fun v s d' =>
     rrT P n l E0 ((i, v) :: V) s d' (pnd l ((cK V).filter (isQ l)) i (xU o.op && !aE0 d)) (brT P n l E0 base K m (wo is i) ((i, v) :: V) s d')) (is.filter (aE1 l (cK V)))
def aI0 (P : Program) {A : Type} {R : A → Prop} (n : Nat) (l : List Oper) (s : S) (d : D P R) (K : S → D P R → Tr) : Tr :=
 prp d s fun s d => .e0 (P.follows .mixedOrders && nA n l) true <|
  brT P n l s.E s.nx (fun V s' d => K ⟨pY l V (List.range l.length) ++ s.E, s'.O, s'.B, s'.nx⟩ d) (l.length + 1) (List.range l.length) [] s d
theorem xQ {l : List Oper} {f : Nat → Value} {o : Oper} (h : o.guard.isNone = true) : onR l f o = true := by
 unfold onR
 cases hg : o.guard with
 | none => rfl
 | some p => rw [hg] at h; cases h
theorem aC9 {n : Nat} {l : List Oper} {Q : Exit → Act → World → Prop} {w0 : World} {E0 : List (Nat × SV)} {f0 : Nat → Value} (hE : Fr E0 f0) {base : Nat} {K : List (Nat × SV) → S → D P R → Tr} {G : Prop} :
  ∀ {m : Nat} {is : List Nat} {V : List (Nat × SV)} {s : S} {d : D P R} {W : World}, (brT P n l E0 base K m is V s d).holds → St w0 W s.rs → Facts w0 W s.B → (∀ j ∈ is, j ∉ cK V) →
   (∀ m2 is2 V2 s2 d2, (brT P n l E0 base K m2 is2 V2 s2 d2).holds → aA6 l is2 (cK V2) = none → St w0 W s2.rs → Facts w0 W s2.B → s2.O = s.O → Ext V V2 → (∀ j, j ∈ cK V2 ∨ j ∈ is2 ↔ j ∈ cK V ∨ j ∈ is) → (∀ j ∈ is2, j ∉ cK V2) → (∀ j ∈ is2, j ∈ is) → (∀ j ∈ cK V2, j ∈ cK V ∨ isQ l j = true ∧ Pnd P n Q w0 l f0 V2 s2 W j) → G) → G := by
 intro m
 induction m with
 | zero => exact fun h _ _ _ _ => h.elim
 | succ m ih =>
  intro is V s d W h st fa hd k
  cases hq : aA6 l is (cK V) with
  | none => exact k (m + 1) is V s d h hq st fa rfl (Ext.refl V) (fun _ => Iff.rfl) hd (fun _ h => h) (fun j hj => .inl hj)
  | some i =>
   have h' := h
   unfold brT at h
   rw [hq] at h
   refine aQ h fun o hi h => ?_
   obtain ⟨hg, h⟩ := h
   have his : i ∈ is := mem_of_find?_eq_some hq
   have hn : lku V i = none := lku_none.2 (hd i his)
   refine pR h st fa fun v s3 d3 h3 e3 e4 fa3 q => ?_
   have mem3 : ∀ j, j ∈ cK ((i, v) :: V) ∨ j ∈ wo is i ↔ j ∈ cK V ∨ j ∈ is := fun j => by
    simp only [cK, map_cons, mem_cons, mem_wo]
    constructor
    ·rintro ((e | h) | ⟨h, _⟩)
     ·exact .inr (e ▸ his)
     ·exact .inl h
     exact .inr h
    rintro (h | h)
    ·exact .inl (.inr h)
    by_cases e : j = i
    ·exact .inl (.inl e)
    exact .inr ⟨h, e⟩
   have hd3 : ∀ j ∈ wo is i, j ∉ cK ((i, v) :: V) := fun j hj hm => by
    obtain ⟨h1, h2⟩ := mem_wo.1 hj
    simp only [cK, map_cons, mem_cons] at hm
    rcases hm with e | hm
    ·exact h2 e
    exact hd j h1 hm
   refine ih h3 (by rw [S.rs, e4]; exact st) fa3 hd3 fun m4 is4 V4 s4 d4 g1 g2 g3 g4 g5 g6 g7 g8 g9 g10 => k m4 is4 V4 s4 d4 g1 g2 g3 g4 (g5.trans e4) ((Ext.new hn).trans g6) (fun j => (g7 j).trans (mem3 j)) g8 (fun j hj => (mem_wo.1 (g9 j hj)).1) fun j hj => ?_
   rcases g10 j hj with h | h
   ·simp only [cK, map_cons, mem_cons] at h
    rcases h with rfl | h
    ·have hqq : isQ l j = true := by
      have := find?_some hq
      simp only [Bool.and_eq_true] at this
      exact this.2
     refine .inr ⟨hqq, Pnd.mono (V := (j, v) :: V) (s := s3) (W := W) ⟨v, o, by unfold lku; rw [Nat.beq_refl]; rfl, hi, fun D f W' a b c d' e' st' hb => ?_⟩ g6 ⟨[], by rw [g5]; rfl⟩ (Below.refl _ _)⟩
     have ha2 := d'.of_ext (Ext.new hn)
     rw [xQ hg]
     intro KK kk
     exact q (d := o.dst) (ty := o.type) (pos := o.pos) (af := o.after) (g := o.guard) (tH hE a b c ha2 e') (by rw [S.rs, ← e4]; exact st') hb (fun W'' _ hb2 => kk W'' hb2)
    exact .inl h
   exact .inr h
def IBr (P : Program) {A : Type} {R : A → Prop} (n : Nat) (Q : Exit → Act → World → Prop) (w0 : World) (l : List Oper) (E0 : List (Nat × SV)) (f0 : Nat → Value) (base : Nat) (K : List (Nat × SV) → S → D P R → Tr) (D : Nat → Bool) (f : Nat → Value) (W : World) : Prop :=
 ∃ m is V s d, (brT P n l E0 base K m is V s d).holds ∧ aA6 l is (cK V) = none ∧ St w0 W s.rs ∧ Facts w0 W s.B ∧ FIa l V D f ∧ FIb l f0 D f ∧ (∀ j, j < l.length → j ∈ cK V ∨ j ∈ is) ∧ (∀ j ∈ is, j ∉ cK V) ∧ (∀ j ∈ is, D j = false) ∧ (∀ j, D j = true → j ∈ cK V) ∧ ∀ j ∈ cK V, D j = false → isQ l j = true ∧ Pnd P n Q w0 l f0 V s W j
theorem keepBr {n : Nat} {l : List Oper} (ho : OrdOk n l) {Q : Exit → Act → World → Prop} {w0 : World} {E0 : List (Nat × SV)} {f0 : Nat → Value} (hE : Fr E0 f0) {base : Nat} {K : List (Nat × SV) → S → D P R → Tr} : KeepI P n Q l (IBr P n Q w0 l E0 f0 base K) := by
 refine ⟨fun i o D f W hi hDi hd hc ⟨m, is, V, s, d, hs, hnq, st, fa, ha, hb, hcov, hdj, hnd, hkd, hp⟩ => ?_⟩
 have hil : i < l.length := (gsi_.1 hi).1
 have hc : uF l D := hc
 have setD_t : ∀ j, eA D i j = true → j = i ∨ D j = true := fun j h => by
  unfold eA at h
  by_cases hj : j = i
  ·exact .inl hj
  rw [gG hj] at h; exact .inr h
 have setD_f : ∀ j, j ≠ i → eA D i j = D j := fun j hj => by unfold eA; rw [gG hj]; rfl
 have frame : ∀ {V2 : List (Nat × SV)} {x : SV}, Ext V V2 → (∀ j, D j = true → j ∈ cK V) → lku V2 i = some x → FIa l V2 (eA D i) (cZ f o.dst x.val) ∧ FIb l f0 (eA D i) (cZ f o.dst x.val) := fun {V2 x} hV2 hk hx => by
  have hdo : aZ l i = o.dst := by unfold aZ; rw [hi]; rfl
  constructor
  ·intro j u t hu hj ht
   rcases setD_t j hj with rfl | hj
   ·rw [hx] at hu
    cases hu
    rw [hdo] at ht
    rw [ht]
    show upd f t x.val t = x.val
    unfold upd; rw [Nat.beq_refl]; rfl
   have hji : j ≠ i := fun e => by rw [e, hDi] at hj; cases hj
   obtain ⟨u0, h0, e0⟩ : ∃ u0, lku V j = some u0 ∧ u.val = u0.val := by
    cases hq : lku V j with
    | none => exact absurd (hk j hj) (lku_none.1 hq)
    | some u0 =>
     obtain ⟨u1, h1, h2⟩ := hV2 j u0 hq
     rw [hu] at h1; cases h1
     exact ⟨u0, rfl, h2⟩
   have hf := ha j u0 t h0 hj ht
   rw [e0, ← hf]
   cases hod : o.dst with
   | none => rfl
   | some t' =>
    show upd f t' x.val t = f t
    unfold upd
    have hjl : j < l.length := by
     unfold aZ at ht
     cases hq : l[j]? with
     | none => rw [hq] at ht; cases ht
     | some o => exact (gsi_.1 hq).1
    rw [gG fun e => ho.ne j i t hjl hil hji ht (by rw [hdo, hod, e])]
    rfl
  intro t ht
  have h1 : f t = f0 t := hb t fun j hj => ht j (by
   by_cases hji : j = i
   ·rw [hji, hDi] at hj; cases hj
   rw [setD_f j hji]; exact hj)
  have h2 : aZ l i ≠ some t := ht i (by unfold eA; rw [Nat.beq_refl]; rfl)
  rw [hdo] at h2
  rw [← h1]
  cases hod : o.dst with
  | none => rfl
  | some t' =>
   show upd f t' x.val t = f t
   unfold upd
   rw [gG fun e => h2 (by rw [hod, e])]
   rfl
 rcases hcov i hil with hik | his
 ·obtain ⟨hqi, x, o', hx, ho', hstep⟩ := hp i hik hDi
  rw [hi] at ho'
  cases ho'
  have hq := hstep D f W hDi hd hc ha hb st (Below.refl _ _)
  have next : ∀ W'', Below W.heap.size W W'' → IBr P n Q w0 l E0 f0 base K (eA D i) (cZ f o.dst x.val) W'' := fun W'' hb2 => by
   obtain ⟨fa1, fb1⟩ := frame (Ext.refl V) hkd hx
   have st2 : St w0 W'' s.rs := by simpa using st.call (St.of_below hb2)
   refine ⟨m, is, V, s, d, hs, hnq, st2, fa.up hb2, fa1, fb1, hcov, hdj, fun j hj => ?_, fun j hj => ?_, fun j hj hDj => ?_⟩
   ·rw [setD_f j fun e => hdj j hj (e ▸ hik)]
    exact hnd j hj
   ·rcases setD_t j hj with rfl | hj
    ·exact hik
    exact hkd j hj
   have hji : j ≠ i := fun e => by rw [e] at hDj; unfold eA at hDj; rw [Nat.beq_refl] at hDj; cases hDj
   rw [setD_f j hji] at hDj
   exact ⟨(hp j hj hDj).1, (hp j hj hDj).2.mono (Ext.refl V) ⟨[], rfl⟩ hb2⟩
  cases hon : onR l f o with
  | true =>
   rw [hon] at hq
   exact hq _ fun W'' hb2 => next W'' hb2
  | false =>
   rw [hon] at hq
   have hq : x.val = undef := hq
   have := next W (Below.refl _ _)
   rw [hq] at this
   exact this
 -- one of those that are barred by none
 have hen : aE1 l (cK V) i = true := by
  unfold aE1
  rw [all_eq_true]
  intro j _
  cases hdp : dep l i j with
  | false => rfl
  | true => simpa using hkd j (hd j hdp)
 cases m with
 | zero => exact hs.elim
 | succ m =>
  unfold brT at hs
  rw [hnq] at hs
  match is, hs, his, hcov, hdj, hnd with
  | [], _, his, _, _, _ => cases his
  | i0 :: is0, hs, his, hcov, hdj, hnd =>
   have h1 := zG hs i (mem_filter.2 ⟨his, hen⟩)
   refine aQ h1 fun o1 ho1 h2 => ?_
   rw [hi] at ho1
   cases ho1
   obtain ⟨hg, hn, h3⟩ := h2
   have hn : lku V i = none := by simpa using hn
   rw [xQ hg]
   refine dU h3 fun d' h4 => (zB (s := ⟨s.E, s.O, s.B, base + 20 * i⟩) (d := o.dst) (ty := o.type) (pos := o.pos) (af := o.after) (g := o.guard) h4 (tH hE hDi hd hc ha hb) st fa fun v s1 d1 W1 h6 e6 g6 st1 fa1 => ?_)
   obtain ⟨hrr, h6⟩ := yN (Q := Q) hE st1 fa1 h6
   have hd3 : ∀ j ∈ wo (i0 :: is0) i, j ∉ cK ((i, v) :: V) := fun j hj hm => by
    obtain ⟨h1, h2⟩ := mem_wo.1 hj
    simp only [cK, map_cons, mem_cons] at hm
    rcases hm with e | hm
    ·exact h2 e
    exact hdj j h1 hm
   refine aC9 hE (Q := Q) h6 st1 fa1 hd3 fun m2 is2 V2 s2 d2 k1 k2 k3 k4 k5 k6 k7 k8 k9 k10 => ?_
   obtain ⟨x, hx, ex⟩ := k6 i v (by unfold lku; rw [Nat.beq_refl]; rfl)
   have hext : Ext V V2 := (Ext.new hn).trans k6
   obtain ⟨fa2, fb2⟩ := frame hext hkd hx
   rw [ex] at fa2 fb2
   refine ⟨m2, is2, V2, s2, d2, k1, k2, k3, k4, fa2, fb2, fun j hj => ?_, k8, fun j hj => ?_, fun j hj => ?_, fun j hj hDj => ?_⟩
   ·refine (k7 j).2 ?_
    rcases hcov j hj with h | h
    ·exact .inl (by simp only [cK, map_cons, mem_cons]; exact .inr h)
    by_cases e : j = i
    ·exact .inl (by simp only [cK, map_cons, mem_cons]; exact .inl e)
    exact .inr (mem_wo.2 ⟨h, e⟩)
   ·obtain ⟨h1, h2⟩ := mem_wo.1 (k9 j hj)
    rw [setD_f j h2]
    exact hnd j h1
   ·have hjv : j ∈ cK ((i, v) :: V) := by
     simp only [cK, map_cons, mem_cons]
     rcases setD_t j hj with e | hj
     ·exact .inl e
     exact .inr (hkd j hj)
    apply Classical.byContradiction
    intro hno
    cases hq : lku ((i, v) :: V) j with
    | none => exact lku_none.1 hq hjv
    | some u =>
     obtain ⟨u', hu', _⟩ := k6 j u hq
     rw [lku_none.2 hno] at hu'; cases hu'
   rcases k10 j hj with h | h
   ·have hji : j ≠ i := fun e => by rw [e] at hDj; unfold eA at hDj; rw [Nat.beq_refl] at hDj; cases hDj
    rw [setD_f j hji] at hDj
    simp only [cK, map_cons, mem_cons] at h
    rcases h with e | h
    ·exact absurd e hji
    cases hgg : (xU o.op && !aE0 d') with
    | true =>
     obtain ⟨⟨N, hN⟩, hb1⟩ := g6 hgg
     exact ⟨(hp j h hDj).1, (hp j h hDj).2.mono hext ⟨N, by rw [k5, hN]⟩ hb1⟩
    | false =>
     by_cases hcj : (aE2 l j).contains i = true
     ·have := mA hc hcj (fun e => hji e.symm) hd
      rw [hDj] at this; cases this
     refine ⟨(hp j h hDj).1, (hrr j ?_).mono k6 ⟨[], by rw [k5]; rfl⟩ (Below.refl _ _)⟩
     rw [hgg]
     show j ∈ ((cK V).filter (isQ l)).filter _
     rw [mem_filter, mem_filter]
     exact ⟨⟨h, (hp j h hDj).1⟩, by simpa using hcj⟩
   exact h
theorem drawB_ok {w0 W : World} {n id : Nat} {l : List Oper} {s : S} {d : D P R} {K : S → D P R → Tr} {f : Nat → Value} {Q : Exit → Act → World → Prop} (h : (aI0 P n l s d K).holds) (den : Den w0 s f W) (k : ∀ s' d' f' W', (K s' d').holds → Den w0 s' f' W' → Q .normal (act n f') W') : (Code.region id l.toArray true).wp P Q (act n f) W := by
 refine jL h den fun s1 d1 h1 den1 => ?_
 obtain ⟨h2, h4⟩ := h1
 rw [Bool.and_eq_true] at h2
 have ho := OrdOk.of h2.2
 let K' : List (Nat × SV) → S → D P R → Tr := fun V s' d => K ⟨pY l V (List.range l.length) ++ s1.E, s'.O, s'.B, s'.nx⟩ d
 have hb0 : Below W.heap.size W { W with drawn := W.drawn + 1 } := (Below.refl _ _).drew
 refine qZ l.length (IBr P n Q w0 l s1.E f s1.nx K') h2.1 (by rw [take_length]; exact h2.2) (by rw [drop_length]; rfl) ?_ (by rw [take_length]; exact keepBr ho den1.fr) ?_
 ·have st0 : St w0 { W with drawn := W.drawn + 1 } s1.rs := by simpa using den1.st.call (St.of_below hb0)
  refine aC9 den1.fr (Q := Q) (K := K') h4 st0 (den1.fa.up hb0) (fun j _ h => by cases h) fun m2 is2 V2 s2 d2 k1 k2 k3 k4 k5 k6 k7 k8 k9 k10 => ?_
  refine ⟨m2, is2, V2, s2, d2, k1, k2, k3, k4, fun j x d _ hD _ => (by cases hD), fun t _ => rfl, fun j hj => (k7 j).2 (.inr (mem_range.2 hj)), k8, fun _ _ => rfl, fun j hD => (by cases hD), fun j hj _ => ?_⟩
  rcases k10 j hj with h | h
  ·cases h
  exact h
 intro D g W' hD ⟨m, is, V, s2, d2, hs, hnq, st, fa, ha, hb, hcov, hdj, hnd, hkd, hp⟩
 rw [take_length] at hD
 rw [drop_length]
 cases m with
 | zero => exact hs.elim
 | succ m =>
  unfold brT at hs
  rw [hnq] at hs
  match is, hs, hcov, hnd with
  | i0 :: is', hs, hcov, hnd =>
   exfalso
   have hi0 := hnd i0 (by simp)
   by_cases hlt : i0 < l.length
   ·rw [hD i0 hlt] at hi0; cases hi0
   -- a number beyond the list bars nothing
   have hen : aE1 l (cK V) i0 = true := by
    unfold aE1
    rw [all_eq_true]
    intro j _
    have : dep l i0 j = false := by
     unfold dep
     rw [getElem?_eq_none aC]
     rfl
    rw [this]; rfl
   have h1 := zG hs i0 (mem_filter.2 ⟨by simp, hen⟩)
   rw [getElem?_eq_none aC] at h1
   exact h1.elim
  | [], hs, hcov, hnd =>
   have hs : (K' V ⟨s2.E, s2.O, s2.B, s1.nx + 20 * l.length⟩ d2).holds := hs
   refine aB (k _ _ _ _ hs ⟨?_, st, fa⟩)
   have hc2 : ∀ j ∈ List.range l.length, j ∈ cK V := fun j hj => (hcov j (mem_range.1 hj)).elim (fun h => h) (fun h => by cases h)
   intro t x hx
   rcases nS hc2 hx with ⟨j, h5, h6⟩ | ⟨h5, h6⟩
   ·refine ha j x t h5 (hD j ?_) h6
    unfold aZ at h6
    cases hq : l[j]? with
    | none => rw [hq] at h6; cases h6
    | some o => exact (gsi_.1 hq).1
   rw [hb t fun j hDj hj => h6 j ?_ hj]
   ·exact den1.fr t x h5
   unfold aZ at hj
   cases hq : l[j]? with
   | none => rw [hq] at hj; cases hj
   | some o => exact mem_range.2 (gsi_.1 hq).1
end
end Go.Proofs.YtanpcpoogkdlaaaGreat
namespace Go.Proofs.YtanpcpoogkdlaaaGreat
set_option linter.unusedSimpArgs false
set_option linter.unusedVariables false
set_option maxHeartbeats 1000000
set_option maxHeartbeats 2000000
open Go.RowKit Go.Proofs.Tryz List

/-! ### States of loops -/
def hdOf (O : List (Nat × Ob)) (B : List (Nat × Bool × Bo)) (j : Nat) : Hd :=
 match lku O j with
 | some (.own _ h _ _) => h
 | some (.row _ _ h _ _) => h
 | _ => match lku B j with
  | some (_, .sl _ h _ _) => h
  | _ => ⟨none, 0, 0⟩
def ptOf (O : List (Nat × Ob)) (B : List (Nat × Bool × Bo)) (j o : Nat) : Sc :=
 match lku O j with
 | some (.bx b pre _ _ _) => .pt j b pre.length o
 | _ => match lku B j with
  | some (_, .rg b k _) => .pt j b k o
  | some (_, .el _ _ _ b k _) => .pt j b k o
  | _ => .vl undef
def tcS (O : List (Nat × Ob)) (B : List (Nat × Bool × Bo)) : Tc → Sc
 | .v x => .vl x
 | .b e => .bo e
 | .p j o => ptOf O B j o
 | .r j => .rf j (hdOf O B j)
def tvS (O : List (Nat × Ob)) (B : List (Nat × Bool × Bo)) : Tv → SV
 | .c x => one (tcS O B x)
 | .a l => .on (.ag (l.map (tcS O B)))
def pick {α : Type u} : List Nat → List (Nat × α) → List (Nat × α)
 | [], _ => []
 | j :: js, O => match lku O j with
  | some o => (j, o) :: pick js O
  | none => pick js O
def zP (G : Nat → Hd × List Nat) : List (Nat × To) → List (Nat × Ob)
 | [] => []
 | (j, .own i xs) :: l => (j, .own i (G j).1 xs (G j).2) :: zP G l
 | (j, .row i e xs) :: l => (j, .row i e (G j).1 xs (G j).2) :: zP G l
 | (_, .bx _) :: l => zP G l
def toBx (s : S) (O1 : List (Nat × Ob)) : List (Nat × To) → List (Nat × Ob)
 | [] => []
 | (j, .bx cs) :: l => match lku s.O j with
  | some (.bx b pre _ post t) => (j, .bx b pre (cs.map (tcS O1 s.B)) post t) :: toBx s O1 l
  | _ => toBx s O1 l
 | _ :: l => toBx s O1 l
def ist (s : S) (ks ko kb : List Nat) (TE : List (Nat × Tv)) (TO : List (Nat × To)) (G : Nat → Hd × List Nat) : S :=
 let O1 := zP G TO ++ pick ko s.O
 let O2 := toBx s O1 TO ++ O1
 ⟨TE.map (fun p => (p.1, tvS O2 s.B p.2)) ++ pick ks s.E, O2, pick (999999 :: kb) s.B, s.nx⟩
def sgm (sg : List (Nat × Nat)) (j : Nat) : Nat := (lku sg j).getD j
def ghs (O : List (Nat × Ob)) (sg : List (Nat × Nat)) (j : Nat) : Hd × List Nat :=
 match lku O (sgm sg j) with
 | some (.own _ h _ fp) => (h, fp)
 | some (.row _ _ h _ fe) => (h, fe)
 | _ => (⟨none, 0, 0⟩, [])
def fitE (E : List (Nat × SV)) : List (Nat × SV) → Tr → Tr
 | [], k => k
 | (t, x) :: l, k => match lku E t with
  | some y => .e0 y.val x.val (fitE E l k)
  | none => .no
def fitB (B : List (Nat × Bool × Bo)) : List (Nat × Bool × Bo) → Tr → Tr
 | [], k => k
 | (j, l, b) :: r, k => match lku B j with
  | some (l', b') => .e1 b' b (.e0 (l' || !l) true (fitB B r k))
  | none => .no
def fitO (sg : List (Nat × Nat)) : List (Nat × Ob) → List (Nat × Ob) → Tr → Tr
 | _, [], k => k
 | O, (j, ob) :: r, k => match lku O (sgm sg j) with
  | some ob' => .e0 ob'.res ob.res (fitO sg (dI O (sgm sg j)) r k)
  | none => .no
def fit (s T : S) (sg : List (Nat × Nat)) (k : Tr) : Tr := fitE s.E T.E (fitB s.B T.B (fitO sg s.O T.O k))
theorem aB6 {E : List (Nat × SV)} {f : Nat → Value} (hf : Fr E f) : ∀ {T : List (Nat × SV)} {k : Tr}, (fitE E T k).holds → Fr T f ∧ k.holds
 | [], k, h => ⟨fun t x hx => (by cases hx), h⟩
 | (t, x) :: l, k, h => by
  unfold fitE at h
  split at h
  ·next y hy =>
   obtain ⟨h1, h2⟩ := h
   obtain ⟨h3, h4⟩ := aB6 hf h2
   exact ⟨h3.know t x ((hf t y hy).trans h1), h4⟩
  ·exact h.elim
theorem aB7 {w0 W : World} {B : List (Nat × Bool × Bo)} (hb : Below w0.heap.size w0 W) (fa : Facts w0 W B) : ∀ {T : List (Nat × Bool × Bo)} {k : Tr}, (fitB B T k).holds → Facts w0 W T ∧ k.holds
 | [], k, h => ⟨fun e he => (by cases he), h⟩
 | (j, l, b) :: r, k, h => by
  unfold fitB at h
  split at h
  ·next l' b' hj =>
   obtain ⟨rfl, h1, h2⟩ := h
   obtain ⟨h3, h4⟩ := aB7 hb fa h2
   refine ⟨fun e he => ?_, h4⟩
   rcases mem_cons.1 he with rfl | he
   ·have := fa _ (kN hj)
    cases l' with
    | true =>
     cases l with
     | true => exact this
     | false => exact Bo.up hb this
    | false =>
     cases l with
     | true => cases h1
     | false => exact this
   ·exact h3 e he
  ·exact h.elim
theorem aB5 {w0 W : World} {sg : List (Nat × Nat)} : ∀ {T O : List (Nat × Ob)} {k : Tr} {rs : List Res}, (fitO sg O T k).holds → St w0 W (Or O ++ rs) → St w0 W (Or T ++ rs) ∧ k.holds
 | [], O, k, rs, h, st => ⟨st.sub (sublist_append_right _ _), h⟩
 | (j, ob) :: r, O, k, rs, h, st => by
  unfold fitO at h
  split at h
  ·next ob' hj =>
   obtain ⟨h1, h2⟩ := h
   have st2 : St w0 W (Or (dI O (sgm sg j)) ++ (ob'.res :: rs)) := (st.take hj).perm perm_middle
   rw [h1] at st2
   obtain ⟨h3, h4⟩ := aB5 h2 st2
   exact ⟨h3.perm (perm_middle (a := ob.res) (l₁ := Or r) (l₂ := rs)).symm, h4⟩
  ·exact h.elim
theorem zA {w0 W : World} {s T : S} {sg : List (Nat × Nat)} {k : Tr} {f : Nat → Value} (h : (fit s T sg k).holds) (den : Den w0 s f W) : Den w0 T f W ∧ k.holds := by
 obtain ⟨h1, h⟩ := aB6 den.fr h
 obtain ⟨h2, h⟩ := aB7 den.st.below den.fa h
 have st : St w0 W (Or s.O ++ []) := by simpa [Or, S.rs] using den.st
 obtain ⟨h3, h⟩ := aB5 h st
 exact ⟨⟨h1, by simpa [Or, S.rs] using h3, h2⟩, h⟩
section
variable {P : Program} {A : Type} {R : A → Prop}
def unT (K : Exit → S → D P R → Tr) (c : (Exit → S → D P R → Tr) → S → D P R → Tr) : Nat → S → D P R → Tr
 | 0, _, _ => .no
 | m + 1, s, d => c (fun e s' d' => match e with
  | .normal => unT K c m s' d'
  | e => K e s' d') s d
def lpC {Γ : Type} (K : Exit → S → D P R → Tr) (c : (Exit → S → D P R → Tr) → S → D P R → Tr) (s : S) (J : Γ → Prop) (m : Γ → Nat) (ks ko kb : List Nat) (TE : Γ → List (Nat × Tv)) (TO : Γ → List (Nat × To)) (g : Γ) (sg : List (Nat × Nat)) (k : ∀ g, J g → Tok J m (m g) → D P R) : Tr :=
   .an (fit s (ist s ks ko kb (TE g) (TO g) (ghs s.O sg)) sg .ok) <|
    .fn fun g : Γ => .fp (J g) fun hJ => .fn fun G : Nat → Hd × List Nat => c (fun e s' d' => match e with
     | .normal => prp d' s' fun s' d' => match d' with
      | .nx (J := J') (m := m') (c := c') _ g' _ _ sg' => .e1 (⟨J', m', c'⟩ : Lsp) ⟨J, m, m g⟩ <| .fp ((⟨J', m', c'⟩ : Lsp) = ⟨J, m, m g⟩) fun he =>
        fit s' (ist s ks ko kb (TE (cast (congrArg Lsp.Γ he) g')) (TO (cast (congrArg Lsp.Γ he) g')) (ghs s'.O sg')) sg' .ok
      | _ => .no
     | e => K e s' d') (ist s ks ko kb (TE g) (TO g) G) (k g hJ ⟨⟩)
def jnT {Δ : Type} (s : S) (Je : Δ → Prop) (ks ko kb : List Nat) (TE : Δ → List (Nat × Tv)) (TO : Δ → List (Nat × To)) (s' : S) (d' : D P R) : Tr :=
 prp d' s' fun s' d' => match d' with
  | .xt Je' g' _ sg' => .e1 (⟨Je'⟩ : Jsp) ⟨Je⟩ <| .fp ((⟨Je'⟩ : Jsp) = ⟨Je⟩) fun he => fit s' (ist s ks ko kb (TE (cast (congrArg Jsp.Γ he) g')) (TO (cast (congrArg Jsp.Γ he) g')) (ghs s'.O sg')) sg' .ok
  | _ => .no
theorem aG8 {Δ : Type} {w0 W : World} {s : S} {Je : Δ → Prop} {ks ko kb : List Nat} {TE : Δ → List (Nat × Tv)} {TO : Δ → List (Nat × To)} {s' : S} {d' : D P R} {f : Nat → Value} (h : (jnT s Je ks ko kb TE TO s' d').holds) (den : Den w0 s' f W) :
  ∃ (g : Δ) (G : Nat → Hd × List Nat), Je g ∧ Den w0 (ist s ks ko kb (TE g) (TO g) G) f W := by
 refine jL h den fun s4 d4 h4 den4 => ?_
 split at h4
 ·next Δ' Je' g' hJ' sg' =>
  obtain ⟨he, h5⟩ := h4
  have h6 := h5 he
  cases he
  obtain ⟨den5, _⟩ := zA h6 den4
  exact ⟨g', _, hJ', den5⟩
 exact h4.elim
def jnK {Δ : Type} (K : Exit → S → D P R → Tr) (s : S) (ex : Nat) (Je : Δ → Prop) (ks ko kb : List Nat) (TE : Δ → List (Nat × Tv)) (TO : Δ → List (Nat × To)) : Exit → S → D P R → Tr
 | .exit i, s', d' => cond (Nat.beq i ex) (jnT s Je ks ko kb TE TO s' d') (K (.exit i) s' d')
 | e, s', d' => K e s' d'
def jcK {Δ : Type} (K : Exit → S → D P R → Tr) (s : S) (Je : Δ → Prop) (ks ko kb : List Nat) (TE : Δ → List (Nat × Tv)) (TO : Δ → List (Nat × To)) : Exit → S → D P R → Tr
 | .normal, s', d' => jnT s Je ks ko kb TE TO s' d'
 | e, s', d' => K e s' d'
def lpT (K : Exit → S → D P R → Tr) (c : (Exit → S → D P R → Tr) → S → D P R → Tr) (s : S) (d : D P R) : Tr :=
 prp d s fun s d => match d with
  | .lp J m ks ko kb TE TO g _ sg k => lpC K c s J m ks ko kb TE TO g sg k
  | .lx J m ks ko kb TE TO g _ sg k (Δ := Δ) Je ex ks2 ko2 kb2 TE2 TO2 k2 => .an (lpC (jnK K s ex Je ks2 ko2 kb2 TE2 TO2) c s J m ks ko kb TE TO g sg k) <|
    .fn fun g : Δ => .fp (Je g) fun hJ => .fn fun G : Nat → Hd × List Nat => K (.exit ex) (ist s ks2 ko2 kb2 (TE2 g) (TO2 g) G) (k2 g hJ)
  | .ul m k => unT K c m s k
  | _ => .no
def knw (c : Operand) (r : Bool) (s : S) : S :=
 match c with
 | .tmp t => ⟨(t, one (.vl (.bool r))) :: s.E, s.O, s.B, s.nx⟩
 | _ => s
def chk (P : Program) {A : Type} {R : A → Prop} (n : Nat) : Code → (Exit → S → D P R → Tr) → S → D P R → Tr
 | .skip, K => K .normal
 | .region _ ops dr, K => fun s d => cond dr (cond (wS ops.toList (tU ops.toList ops.toList.length [])) (aH9 P n ops.toList s d fun s d => K .normal s d) (aI0 P n ops.toList s d fun s d => K .normal s d)) (opsT P n ops.toList ops.toList s d fun s d => K .normal s d)
 | .seq a b, K => chk P n a fun e s d => match e with
  | .normal => chk P n b K s d
  | e => K e s d
 | .cond c a b, K => fun s d => prp d s fun s d => match d with
  | .jc (Δ := Δ) Je ks2 ko2 kb2 TE2 TO2 k k2 => .an (prp k s fun s0 d => opt (opd n s0 c) fun v => asC v fun x => bl x d fun r d => match r with
    | true => chk P n a (jcK K s Je ks2 ko2 kb2 TE2 TO2) (knw c true s0) d
    | false => chk P n b (jcK K s Je ks2 ko2 kb2 TE2 TO2) (knw c false s0) d) <|
    .fn fun g : Δ => .fp (Je g) fun hJ => .fn fun G : Nat → Hd × List Nat => K .normal (ist s ks2 ko2 kb2 (TE2 g) (TO2 g) G) (k2 g hJ)
  | d => opt (opd n s c) fun v => asC v fun x => bl x d fun r d => match r with
   | true => chk P n a K (knw c true s) d
   | false => chk P n b K (knw c false s) d
 | .block id c, K => chk P n c fun e s d => match e with
  | .exit i => cond (Nat.beq i id) (K .normal s d) (K (.exit i) s d)
  | e => K e s d
 | .loop c, K => lpT K (chk P n c)
 | .exit id, K => K (.exit id)
 | .ret, K => K .ret
 | _, _ => fun _ _ => .no
theorem aI2 {w0 : World} {n : Nat} : ∀ (c : Code) {K : Exit → S → D P R → Tr} {s : S} {d : D P R} {f : Nat → Value} {W : World} {Q : Exit → Act → World → Prop}, (chk P n c K s d).holds → Den w0 s f W →
  (∀ e s' d' f' W', (K e s' d').holds → Den w0 s' f' W' → Q e (act n f') W') → c.wp P Q (act n f) W := by
 intro c
 induction c with
 | skip => exact fun h den k => wp_skip (k _ _ _ _ _ h den)
 | region id ops dr =>
  intro K s d f W Q h den k
  cases dr with
  | true =>
   have h : (cond (wS ops.toList (tU ops.toList ops.toList.length [])) (aH9 P n ops.toList s d fun s d => K .normal s d) (aI0 P n ops.toList s d fun s d => K .normal s d)).holds := h
   cases hc : wS ops.toList (tU ops.toList ops.toList.length []) with
   | true =>
    rw [hc] at h
    have := drawT_ok (id := id) h den (fun s' d' f' W' h den => k .normal s' d' f' W' h den)
    simpa using this
   | false =>
    rw [hc] at h
    have := drawB_ok (id := id) h den (fun s' d' f' W' h den => k .normal s' d' f' W' h den)
    simpa using this
  | false =>
   have := aA (id := id) (wL (fun s' d' f' W' h den => k .normal s' d' f' W' h den) h den)
   simpa using this
 | seq a b iha ihb =>
  intro K s d f W Q h den k
  refine wp_seq (iha h den fun e s' d' f' W' h' den' => ?_)
  cases e with
  | normal => exact ihb h' den' k
  | exit id => exact k _ _ _ _ _ h' den'
  | goto l => exact k _ _ _ _ _ h' den'
  | ret => exact k _ _ _ _ _ h' den'
  | panic ch => exact k _ _ _ _ _ h' den'
  | outgrown => exact k _ _ _ _ _ h' den'
 | cond c a b iha ihb =>
  intro K s d f W Q h den k
  have step : ∀ {K' : Exit → S → D P R → Tr} {s1 : S} {d1 : D P R}, (opt (opd n s1 c) fun v => asC v fun x => bl x d1 fun r d => match r with
    | true => chk P n a K' (knw c true s1) d
    | false => chk P n b K' (knw c false s1) d).holds → Den w0 s1 f W → (∀ e s' d' f' W', (K' e s' d').holds → Den w0 s' f' W' → Q e (act n f') W') → (Code.cond c a b).wp P Q (act n f) W := by
   intro K' s1 d1 h1 den1 k'
   refine aQ h1 fun v hv h2 => cH h2 fun x hx h3 => aC4 h3 fun r d2 hr h4 => ?_
   subst hx
   have hc := (yS den1.fr c _ hv).trans hr
   have hk : Den w0 (knw c r s1) f W := by
    clear h4 h3 h2 h1 h
    cases c with
    | tmp t =>
     refine ⟨den1.fr.know t _ ?_, den1.st, den1.fa⟩
     have hv' : lku s1.E t = some (one x) := by
      simp only [opd] at hv
      cases hb : Nat.ble (t + 1) n with
      | true => rw [hb] at hv; exact hv
      | false => rw [hb] at hv; cases hv
     exact (den1.fr t _ hv').trans hr
    | const v => exact den1
    | global g => exact den1
    | func g => exact den1
   cases r with
   | true => exact bU hc (fun _ => iha h4 hk k') (fun h => by cases h)
   | false => exact bU hc (fun h => by cases h) (fun _ => ihb h4 hk k')
  refine jL h den fun s1 d1 h1 den1 => ?_
  split at h1
  ·next Δ Je ks2 ko2 kb2 TE2 TO2 kk k2 =>
   obtain ⟨h2, h3⟩ := h1
   refine jL h2 den1 fun s0 d0 h4 den0 => step h4 den0 fun e s' d' f' W' h' den' => ?_
   cases e with
   | normal =>
    obtain ⟨g, G, hJ, den5⟩ := aG8 h' den'
    exact k _ _ _ _ _ (h3 g hJ G) den5
   | exit i => exact k _ _ _ _ _ h' den'
   | goto l => exact k _ _ _ _ _ h' den'
   | ret => exact k _ _ _ _ _ h' den'
   | panic ch => exact k _ _ _ _ _ h' den'
   | outgrown => exact k _ _ _ _ _ h' den'
  exact step h1 den1 k
 | block id c ih =>
  intro K s d f W Q h den k
  refine wp_block (ih h den fun e s' d' f' W' h' den' => ?_)
  cases e with
  | exit i =>
   show if i = id then Q .normal _ _ else Q (.exit i) _ _
   have h' : (cond (Nat.beq i id) (K .normal s' d') (K (.exit i) s' d')).holds := h'
   by_cases hi : i = id
   ·rw [if_pos hi]
    subst hi
    rw [Nat.beq_refl] at h'
    exact k _ _ _ _ _ h' den'
   rw [if_neg hi]
   rw [gG hi] at h'
   exact k _ _ _ _ _ h' den'
  | normal => exact k _ _ _ _ _ h' den'
  | goto l => exact k _ _ _ _ _ h' den'
  | ret => exact k _ _ _ _ _ h' den'
  | panic ch => exact k _ _ _ _ _ h' den'
  | outgrown => exact k _ _ _ _ _ h' den'
 | loop c ih =>
  intro K s0 d0 f0 W0 Q h den k
  have step : ∀ {Γ : Type} {K' : Exit → S → D P R → Tr} {s : S} {J : Γ → Prop} {m : Γ → Nat} {ks ko kb : List Nat} {TE : Γ → List (Nat × Tv)} {TO : Γ → List (Nat × To)} {g0 : Γ} {sg : List (Nat × Nat)} {kk : ∀ g, J g → Tok J m (m g) → D P R}, J g0 →
    (lpC K' (chk P n c) s J m ks ko kb TE TO g0 sg kk).holds → Den w0 s f0 W0 → (∀ e s' d' f' W', e ≠ .normal → (K' e s' d').holds → Den w0 s' f' W' → Q e (act n f') W') → (Code.loop c).wp P Q (act n f0) W0 := by
   intro Γ K' s J m ks ko kb TE TO g0 sg kk hJ0 h1 den1 k'
   obtain ⟨h2, h3⟩ := h1
   obtain ⟨den2, _⟩ := zA h2 den1
   refine aP (fun mm f W => ∃ (g : Γ) (G : Nat → Hd × List Nat), J g ∧ m g = mm ∧ Den w0 (ist s ks ko kb (TE g) (TO g) G) f W) (m g0) ⟨g0, _, hJ0, rfl, den2⟩ ?_
   rintro mm f W ⟨g, G, hJ, rfl, den3⟩
   refine ih (h3 g hJ G) den3 fun e s' d' f' W' h' den' => ?_
   cases e with
   | normal =>
    refine jL h' den' fun s4 d4 h4 den4 => ?_
    split at h4
    ·next Γ' J' m' c' t' g' hJ' hm' sg' =>
     obtain ⟨he, h5⟩ := h4
     have h6 := h5 he
     cases he
     obtain ⟨den5, _⟩ := zA h6 den4
     exact ⟨f', m g', hm', rfl, g', _, hJ', rfl, den5⟩
    exact h4.elim
   | exit i => exact k' _ _ _ _ _ (fun h => by cases h) h' den'
   | goto l => exact k' _ _ _ _ _ (fun h => by cases h) h' den'
   | ret => exact k' _ _ _ _ _ (fun h => by cases h) h' den'
   | panic ch => exact k' _ _ _ _ _ (fun h => by cases h) h' den'
   | outgrown => exact k' _ _ _ _ _ (fun h => by cases h) h' den'
  refine jL h den fun s d h1 den1 => ?_
  split at h1
  ·next hJ0 _ _ => exact step hJ0 h1 den1 fun e s' d' f' W' _ h' den' => k _ _ _ _ _ h' den'
  ·next Γ J m ks ko kb TE TO g0 hJ0 sg kk Δ Je ex ks2 ko2 kb2 TE2 TO2 k2 =>
   obtain ⟨h2, h3⟩ := h1
   refine step hJ0 h2 den1 fun e s' d' f' W' hne h' den' => ?_
   cases e with
   | normal => exact absurd rfl hne
   | exit i =>
    have h' : (cond (Nat.beq i ex) (jnT s Je ks2 ko2 kb2 TE2 TO2 s' d') (K (.exit i) s' d')).holds := h'
    by_cases hi : i = ex
    ·subst hi
     rw [Nat.beq_refl] at h'
     obtain ⟨g, G, hJ, den5⟩ := aG8 h' den'
     exact k _ _ _ _ _ (h3 g hJ G) den5
    rw [gG hi] at h'
    exact k _ _ _ _ _ h' den'
   | goto l => exact k _ _ _ _ _ h' den'
   | ret => exact k _ _ _ _ _ h' den'
   | panic ch => exact k _ _ _ _ _ h' den'
   | outgrown => exact k _ _ _ _ _ h' den'
  ·next m0 kk =>
   refine aP (fun mm f W => ∃ (s : S) (d : D P R), (unT K (chk P n c) mm s d).holds ∧ Den w0 s f W) m0 ⟨s, kk, h1, den1⟩ ?_
   rintro mm f W ⟨s2, d2, h2, den2⟩
   cases mm with
   | zero => exact h2.elim
   | succ mm =>
    refine ih h2 den2 fun e s' d' f' W' h' den' => ?_
    cases e with
    | normal => exact ⟨f', mm, Nat.lt_succ_self _, rfl, s', d', h', den'⟩
    | exit i => exact k _ _ _ _ _ h' den'
    | goto l => exact k _ _ _ _ _ h' den'
    | ret => exact k _ _ _ _ _ h' den'
    | panic ch => exact k _ _ _ _ _ h' den'
    | outgrown => exact k _ _ _ _ _ h' den'
  exact h1.elim
 | exit id => exact fun h den k => wp_exit (k _ _ _ _ _ h den)
 | ret => exact fun h den k => wp_ret (k _ _ _ _ _ h den)
 | _ => intros; exact (by assumption : Tr.no.holds).elim
end
end Go.Proofs.YtanpcpoogkdlaaaGreat
namespace Go.Proofs.YtanpcpoogkdlaaaGreat
set_option linter.unusedSimpArgs false
set_option linter.unusedVariables false
set_option maxHeartbeats 1000000
set_option maxHeartbeats 2000000
open Go.RowKit Go.Proofs.Tryz List
section
variable {P : Program} {A : Type} {R : A → Prop}
/-! ### What comes in -/
def yB : List Par → Nat → S → (S → Tr) → Tr
 | [], _, s, K => K s
 | .v x :: ps, t, s, K => yB ps (t + 1) ⟨(t, one (sc x)) :: s.E, s.O, s.B, s.nx⟩ K
 | .b e :: ps, t, s, K => yB ps (t + 1) ⟨(t, one (.bo e)) :: s.E, s.O, s.B, s.nx⟩ K
 | .st i x :: ps, t, s, K => pU true (i.lv x) s fun cs s => yB ps (t + 1) ⟨(t, .on (.ag cs)) :: s.E, s.O, s.B, s.nx⟩ K
 | .sl i xs :: ps, t, s, K => .fn fun g : Hd × List Nat => yB ps (t + 1) ⟨(t, one (.rf s.nx g.1)) :: s.E, s.O, (s.nx, true, .sl i g.1 xs g.2) :: s.B, s.nx + 1⟩ K
theorem qC {w : World} : ∀ {ls : List Lf} {cs : List Value} {fp : List Nat}, eE w cs ls fp → lns ls
 | [], _, _, _ => trivial
 | .v x :: ls, [], _, h => h.elim
 | .s _ _ _ :: ls, [], _, h => h.elim
 | .v x :: ls, c :: cs, fp, h => qC (ls := ls) h.2
 | .s _ _ ys :: ls, c :: cs, fp, h => by
  obtain ⟨f1, f2, h1, h2, _⟩ := h
  exact ⟨h1.len_le, qC h2⟩
theorem jX {G : Prop} {w W : World} {f : Nat → Value} : ∀ {ps : List Par} {us : List Value} {t : Nat} {s : S} {K : S → Tr}, (yB ps t s K).holds → Pars w us ps → (∀ k v, us[k]? = some v → f (t + k) = v) → Den w s f W →
  (∀ s', (K s').holds → Den w s' f W → gin ps → G) → G
 | [], [], t, s, K, h, hp, hu, den, k => k s h den trivial
 | [], _ :: _, t, s, K, h, hp, hu, den, k => hp.elim
 | p :: ps, [], t, s, K, h, hp, hu, den, k => by cases p <;> exact hp.elim
 | p :: ps, u :: us, t, s, K, h, hp, hu, den, k => by
  have h0 : f t = u := hu 0 u rfl
  have hu' : ∀ k v, us[k]? = some v → f (t + 1 + k) = v := fun k v hk => by
   rw [Nat.add_assoc, Nat.add_comm 1 k]; exact hu (k + 1) v (by simpa using hk)
  cases p with
  | v x =>
   obtain ⟨rfl, hp⟩ := hp
   exact jX (t := t + 1) (us := us) h hp hu' ⟨den.fr.know t (one (sc u)) (h0.trans (jJ u).symm), den.st, den.fa⟩ k
  | b e =>
   obtain ⟨rfl, hp⟩ := hp
   exact jX (t := t + 1) (us := us) h hp hu' ⟨den.fr.know t (one (.bo e)) h0, den.st, den.fa⟩ k
  | st i x =>
   obtain ⟨⟨cs, fp, rfl, hc⟩, hp⟩ := hp
   obtain ⟨hg, hc⟩ := i.out hc
   refine mL (l := true) (w0 := w) (W := W) h hc den.fa fun scs s1 h1 e1 e2 e3 fa' => (jX (t := t + 1) (us := us) h1 hp hu' ⟨?_, by rw [S.rs, e3]; exact den.st, fa'⟩ fun s' h' den' hg' => k s' h' den' ⟨⟨hg, qC hc⟩, hg'⟩)
   refine Fr.know (by rw [e2]; exact den.fr) t _ (h0.trans ?_)
   show Value.agg cs.toArray = .agg (scs.map Sc.val).toArray
   rw [e1]
  | sl i xs =>
   obtain ⟨⟨fp, hs⟩, hp⟩ := hp
   obtain ⟨hd, rfl, hn⟩ := hs.hd
   refine jX (t := t + 1) (us := us) (h (hd, fp)) hp hu' ⟨den.fr.know t _ h0, den.st, fun e he => ?_⟩ fun s' h' den' hg' => k s' h' den' ⟨hs.len_le, hg'⟩
   rcases mem_cons.1 he with rfl | he
   ·exact hs
   ·exact den.fa e he
theorem entT_ok {G : Prop} {w : World} {f : Nat → Value} {ps : List Par} {us : List Value} {t : Nat} {s : S} {K : S → Tr} (h : (yB ps t s K).holds) (hp : Pars w us ps) (hu : ∀ k v, us[k]? = some v → f (t + k) = v) (den : Den w s f w) (k : ∀ s', (K s').holds → Den w s' f w → gin ps → G) : G := jX h hp hu den k
/-! ### What goes out -/
def rgd : List Rk → Prop
 | [] => True
 | .own i x :: ks => i.good x ∧ rgd ks
 | _ :: ks => rgd ks
def resT (P : Program) (n : Nat) (s : S) (r : ResultVar) (K : TV → Tr) : Tr :=
 match r with
 | .tmp t => opt (opd n s (.tmp t)) fun v => match v with
  | .on v => K v
  | _ => .no
 | .cell a t => opt (opd n s (.tmp a)) fun v => asC v fun c => ldT P s t c fun v => match v with
  | .on v => K v
  | _ => .no
def yO (tmps : Array Value) : ResultVar → Sem Value
 | .tmp t => pure (tmps.getD t undef)
 | .cell a t => do loadVar t (← asAddr (tmps.getD a undef))
theorem ldT_run {G : Prop} {w0 W : World} {s : S} {t : TypeId} {c : Sc} {K : SV → Tr} (h : (ldT P s t c K).holds) (st : St w0 W s.rs) (fa : Facts w0 W s.B) (k : ∀ v a, c.val = .pointer (some a) → (loadVar t a).run P W = .ok v.val W → (K v).holds → G) : G := by
 unfold ldT at h
 split at h
 ·next j b0 k0 o =>
  refine aQ h fun r hr h => ?_
  obtain ⟨b, kk, cs⟩ := r
  obtain ⟨h1, h2, h⟩ := h
  simp only at h1 h2
  subst h1 h2
  have hrg := wH hr st fa
  refine aQ h fun z hz h => ?_
  cases z with
  | none =>
   refine aQ h fun v hvv h => k _ _ rfl ?_ h
   have := tI (P := P) (cs := [v.val]) (o := k0 + o) (b := b0) (W := W) hz (by
    intro q u hj
    cases q with
    | zero =>
     simp at hj; subst hj
     exact hrg o _ (by rw [getElem?_map]; simp only at hvv; rw [hvv]; rfl)
    | succ j => simp at hj) rfl
   simp [Instr.loadAt, Instr.sureAddr, Sem.run_bind] at this
   exact this
  | some z =>
   obtain ⟨h1, h⟩ := h
   simp only at h1
   refine k _ _ rfl ?_ h
   have h5 := nK (i := o) (z := z) hrg
   have := tI (P := P) (cs := ((cs.drop o).take z).map Sc.val) (o := k0 + o) (b := b0) (W := W) hz (by simpa [map_take, map_drop] using h5) (by simpa using h1)
   simp only [Instr.loadAt, Instr.sureAddr, Sem.run_bind, Sem.run_pure, Result.andThen_ok] at this
   exact this
 exact h.elim
theorem resT_ok {G : Prop} {w0 W : World} {n : Nat} {s : S} {r : ResultVar} {K : TV → Tr} {f : Nat → Value} (h : (resT P n s r K).holds) (den : Den w0 s f W) (k : ∀ v, (yO (act n f).tmps r).run P W = .ok v.val W → (K v).holds → G) : G := by
 have hg : ∀ t v, opd n s (.tmp t) = some v → (act n f).tmps.getD t undef = v.val := fun t v hv => by
  rw [rQ]; exact yS den.fr (.tmp t) v hv
 cases r with
 | tmp t =>
  refine aQ h fun v hv h => ?_
  split at h
  ·next v =>
   refine k v ?_ h
   simp only [yO, hg t _ hv]
   rfl
  exact h.elim
 | cell a t =>
  refine aQ h fun v hv h' => cH h' fun c hc h => ?_
  subst hc
  refine ldT_run h den.st den.fa fun v ad e hl h => ?_
  split at h
  ·next v =>
   refine k v ?_ h
   simp only [yO, hg a _ hv]
   have : (SV.on (TV.ce c)).val = .pointer (some ad) := e
   rw [this]
   simp [asAddr, Sem.run_bind]
   exact hl
  exact h.elim
def resA (P : Program) (n : Nat) (s : S) : List ResultVar → (List TV → Tr) → Tr
 | [], K => K []
 | r :: rs, K => resT P n s r fun v => resA P n s rs fun vs => K (v :: vs)
theorem wI {G : Prop} {w0 W : World} {n : Nat} {s : S} {f : Nat → Value} (den : Den w0 s f W) : ∀ {rs : List ResultVar} {K : List TV → Tr}, (resA P n s rs K).holds → (∀ vs, (rs.mapM (yO (act n f).tmps)).run P W = .ok (vs.map TV.val) W → (K vs).holds → G) → G
 | [], K, h, k => k [] rfl h
 | r :: rs, K, h, k => resT_ok h den fun v hv h => wI den (K := fun vs => K (v :: vs)) h fun vs hvs h => k (v :: vs) (by
   simp [mapM_cons, Sem.run_bind, hv, hvs]) h
theorem qJ {fn : Func} {tmps : Array Value} {vs : List Value} {W : World} (h : (fn.results.toList.mapM (yO tmps)).run P W = .ok vs W) : (results fn tmps).run P W = .ok (wE vs) W := by
 have e : results fn tmps = (do let vs ← fn.results.mapM (yO tmps); pure (if h : vs.size = 1 then vs[0] else .tuple vs)) := by
  unfold results
  congr 1
 rw [e, Array.mapM_eq_mapM_toList, Sem.run_bind]
 have h2 : (List.toArray <$> fn.results.toList.mapM (yO tmps)).run P W = .ok vs.toArray W := by
  rw [map_eq_pure_bind, Sem.run_bind, h]; rfl
 rw [h2]
 show Result.ok _ W = _
 congr 1
 match vs with
 | [] => rfl
 | [v] => rfl
 | _ :: _ :: _ => rfl
def rkT : List TV → List Rk → List (Nat × Ob) → (List (Nat × Ob) → Tr) → Tr
 | [], [], O, K => K O
 | .ce c :: ts, .v x :: ks, O, K => .e0 c.val x (rkT ts ks O K)
 | .ag cs :: ts, .own i x :: ks, O, K => iQ O cs (i.lv x) fun O' => rkT ts ks O' K
 | .ce c :: ts, .sl i xs :: ks, O, K => iQ O [c] [.s _ i xs] fun O' => rkT ts ks O' K
 | _, _, _, _ => .no
theorem aF6 {w0 W : World} : ∀ {ts : List TV} {ks : List Rk} {O : List (Nat × Ob)} {K : List (Nat × Ob) → Tr} {rs : List Res}, (rkT ts ks O K).holds → rgd ks → St w0 W (Or O ++ rs) → ∃ r O', (K O').holds ∧ Rks (ts.map TV.val) ks r ∧ St w0 W (Or O' ++ (r ++ rs)) := by
 intro ts
 induction ts with
 | nil =>
  intro ks O K rs h hg st
  cases ks with
  | nil => exact ⟨[], O, h, rfl, st⟩
  | cons => exact h.elim
 | cons t ts ih =>
  intro ks O K rs h hg st
  cases ks with
  | nil => cases t <;> exact h.elim
  | cons kk ks =>
   have mid : ∀ {O' : List (Nat × Ob)} {r : List Res} {x : Res}, St w0 W (Or O' ++ (r ++ (x :: rs))) → St w0 W (Or O' ++ ((x :: r) ++ rs)) := fun {O' r x} h => h.perm ((perm_middle (a := x) (l₁ := r) (l₂ := rs)).symm.append_left (Or O'))
   cases t with
   | ce c =>
    cases kk with
    | v x =>
     obtain ⟨h1, h2⟩ := h
     obtain ⟨r, O', hK, h3, h4⟩ := ih h2 hg st
     exact ⟨r, O', hK, ⟨[], r, ⟨h1, rfl⟩, h3, rfl⟩, h4⟩
    | own i x => exact h.elim
    | sl i xs =>
     refine eG h st fun O' fp h' st' => ?_
     obtain ⟨f1, f2, st2⟩ := St.s_pc st'
     have st3 := st2.d0
     obtain ⟨r, O2, hK, h3, h4⟩ := ih h' hg (rs := Res.own c.val xs f1 :: rs) (st3.perm perm_middle)
     exact ⟨Res.own c.val xs f1 :: r, O2, hK, ⟨[_], r, ⟨f1, rfl⟩, h3, rfl⟩, mid h4⟩
   | ag cs =>
    cases kk with
    | v x => exact h.elim
    | sl i xs => exact h.elim
    | own i x =>
     refine eG h st fun O' fp h' st' => ?_
     have st2 := St.pc_cs i st' hg.1
     obtain ⟨r, O2, hK, h3, h4⟩ := ih h' hg.2 (rs := @Res.cs _ i.toShape (cs.map Sc.val) x fp :: rs) (st2.perm perm_middle)
     exact ⟨_ :: r, O2, hK, ⟨[_], r, ⟨_, fp, rfl, rfl⟩, h3, rfl⟩, mid h4⟩
def retT (P : Program) {A : Type} {R : A → Prop} (rk : A → List Rk) (n : Nat) (rs : List ResultVar) (s : S) (d : D P R) : Tr :=
 prp d s fun s d => match d with
  | .rt a _ => resA P n s rs fun ts => rkT ts (rk a) s.O fun _ => .ok
  | _ => .no
def grB : Option Gr → List (Nat × Bool × Bo)
 | none => []
 | some g => [(999999, true, .gr g)]
theorem grB_ok {G : Option Gr} {w : World} (h : Gin G w) : Facts w w (grB G) := by
 cases G with
 | none => intro e he; cases he
 | some g =>
  intro e he
  simp only [grB, mem_singleton] at he
  subst he
  exact h
def vcT (P : Program) (fn : Func) (G : Option Gr) (ps : List Par) {A : Type} {R : A → Prop} (rk : A → List Rk) (d : gin ps → D P (fun a => R a ∧ rgd (rk a))) : Tr :=
 .e0 (Nat.ble ps.length fn.ntmps) true <| match fn.body with
  | some c => yB ps 0 ⟨[], [], grB G, 0⟩ fun s => .fp (gin ps) fun hg => chk P fn.ntmps c (fun e s d => match e with
   | .ret => retT P rk fn.ntmps fn.results.toList s d
   | .normal => retT P rk fn.ntmps fn.results.toList s d
   | _ => .no) s (d hg)
  | none => .no
theorem Pars.len {w : World} : ∀ {us : List Value} {ps : List Par}, Pars w us ps → us.length = ps.length
 | [], [], _ => rfl
 | [], p :: _, h => by cases p <;> exact h.elim
 | _ :: _, [], h => h.elim
 | u :: us, p :: ps, h => by
  cases p <;> exact congrArg (· + 1) (Pars.len h.2)
theorem vcg {F : FuncId} {fn : Func} {ps : List Par} {rk : A → List Rk} (G : Option Gr) (hf : P.funcs[F]? = some fn) (d : gin ps → D P (fun a => R a ∧ rgd (rk a))) (h : (vcT P fn G ps rk d).side true = (vcT P fn G ps rk d).side false) : Cg P F G ps R rk := by
 have h := Tr.of_side h
 obtain ⟨h1, h⟩ := h
 refine ⟨fun w us hG hp => ?_⟩
 split at h
 ·next c hb =>
  have hl : us.length ≤ fn.ntmps := by rw [hp.len]; exact Nat.le_of_ble_eq_true h1
  refine enter us hf hb rfl hl ?_
  refine entT_ok (t := 0) h hp (f := fun t => us.getD t undef) (fun k v hk => by
   show us.getD (0 + k) undef = v
   rw [Nat.zero_add, getD_eq_getElem?_getD, hk]; rfl) ⟨fun t x hx => (by cases hx), St.start w, grB_ok hG⟩ fun s' h' den' hg => ?_
  have hret : ∀ {s : S} {d : D P (fun a => R a ∧ rgd (rk a))} {f : Nat → Value} {W : World}, (retT P rk fn.ntmps fn.results.toList s d).holds → Den w s f W → ∃ v, (results fn (act fn.ntmps f).tmps).run P W = .ok v W ∧ ∃ a vs rs, R a ∧ Ending.returned v = .returned (wE vs) ∧ Rks vs (rk a) rs ∧ St w W rs := by
   intro s d f W h den
   refine jL h den fun s1 d1 h1 den1 => ?_
   split at h1
   ·next a ha =>
    refine wI den1 h1 fun ts hts h2 => ?_
    have st : St w W (Or s1.O ++ []) := by simpa [Or, S.rs] using den1.st
    obtain ⟨r, O', _, h3, h4⟩ := aF6 h2 ha.2 st
    exact ⟨_, qJ hts, a, _, r, ha.1, rfl, h3, h4.sub (by rw [append_nil]; exact sublist_append_right _ _)⟩
   exact h1.elim
  refine aI2 c (h' hg) den' fun e s2 d2 f2 W2 h2 den2 => ?_
  cases e with
  | ret => exact ⟨rfl, hret h2 den2⟩
  | normal => exact ⟨rfl, hret h2 den2⟩
  | exit i => exact h2.elim
  | goto l => exact h2.elim
  | panic ch => exact h2.elim
  | outgrown => exact h2.elim
 exact h.elim
theorem vc {F : FuncId} {fn : Func} {ps : List Par} {rk : A → List Rk} (hf : P.funcs[F]? = some fn) (d : gin ps → D P (fun a => R a ∧ rgd (rk a))) (h : (vcT P fn none ps rk d).side true = (vcT P fn none ps rk d).side false) : Ct P F ps R rk := vcg none hf d h
/-! ### Functions that are handed a pointer -/
def Res.all (rs : List Res) : Res where
 fp := rs.flatMap Res.fp
 holds := fun W => ∀ r ∈ rs, r.holds W
 loc := fun hs hb h r hr => r.loc hs (fun b hm => hb b (mem_flatMap.2 ⟨r, hr, hm⟩)) (h r hr)
 wr := fun h b hb => by
  obtain ⟨r, hr, hm⟩ := mem_flatMap.1 hb
  exact r.wr (h r hr) b hm
theorem St.all_in {w W : World} {a rs : List Res} (h : St w W (a ++ rs)) : St w W (a ++ [Res.all rs]) := by
 refine ⟨h.below, by simpa [Res.all] using h.nodup, fun r hr b hb => ?_, fun r hr => ?_⟩
 ·rcases mem_append.1 hr with hr | hr
  ·exact h.fresh r (mem_append_left _ hr) b hb
  simp only [mem_singleton] at hr
  subst hr
  obtain ⟨q, hq, hm⟩ := mem_flatMap.1 (show b ∈ rs.flatMap Res.fp from hb)
  exact h.fresh q (mem_append_right _ hq) b hm
 rcases mem_append.1 hr with hr | hr
 ·exact h.holds r (mem_append_left _ hr)
 simp only [mem_singleton] at hr
 subst hr
 exact fun q hq => h.holds q (mem_append_right _ hq)
theorem St.all_out {w W : World} {a rs : List Res} (h : St w W (a ++ [Res.all rs])) : St w W (a ++ rs) := by
 refine ⟨h.below, by simpa [Res.all] using h.nodup, fun r hr b hb => ?_, fun r hr => ?_⟩
 ·rcases mem_append.1 hr with hr | hr
  ·exact h.fresh r (mem_append_left _ hr) b hb
  exact h.fresh (Res.all rs) (by simp) b (mem_flatMap.2 ⟨r, hr, hb⟩)
 rcases mem_append.1 hr with hr | hr
 ·exact h.holds r (mem_append_left _ hr)
 exact h.holds (Res.all rs) (by simp) r hr
def bigN : Nat := 1000000
def retM (P : Program) {A : Type} {R : A → Prop} {α : Type} (i : Dsh α) (y : A → α) (rk : A → List Rk) (n : Nat) (rs : List ResultVar) (b : Nat) (t : TypeId) (pre post : List Value) (r : Res) (s : S) (d : D P R) : Tr :=
 prp d s fun s d => match d with
  | .rt a _ => match lku s.O 0 with
   | some (.bx b' pre' cs post' t') => .e0 b' b <| .e0 pre' pre <| .e0 post' post <| .e0 t' t <| iQ (dI s.O 0) cs (i.lv (y a)) fun O' =>
     resA P n s rs fun ts => rkT ts (rk a) O' fun O2 => match lku O2 bigN with
      | some (.raw r') => .e0 r' r .ok
      | _ => .no
   | _ => .no
  | _ => .no
def vcmT (P : Program) (fn : Func) (ps : List Par) {α : Type} (i : Dsh α) (x : α) {A : Type} {R : A → Prop} (y : A → α) (rk : A → List Rk) (d : gin ps → lns (i.lv x) → D P (fun a => R a ∧ rgd (rk a))) : Tr :=
 .e0 (Nat.ble (ps.length + 1) fn.ntmps) true <| match fn.body with
  | some c => .fn fun G : (Nat × TypeId) × (List Value × List Value × Res) => tL (i.lv x) ⟨[], [(bigN, .raw G.2.2.2)], [], 1⟩ fun scs s =>
    yB ps 1 ⟨[(0, one (.pt 0 G.1.1 G.2.1.length 0))], (0, .bx G.1.1 G.2.1 scs G.2.2.1 G.1.2) :: s.O, s.B, s.nx⟩ fun s => .fp (gin ps) fun hg => .fp (lns (i.lv x)) fun hn => chk P fn.ntmps c (fun e s d => match e with
     | .ret => retM P i y rk fn.ntmps fn.results.toList G.1.1 G.1.2 G.2.1 G.2.2.1 G.2.2.2 s d
     | .normal => retM P i y rk fn.ntmps fn.results.toList G.1.1 G.1.2 G.2.1 G.2.2.1 G.2.2.2 s d
     | _ => .no) s (d hg hn)
  | none => .no
theorem vcm {F : FuncId} {fn : Func} {ps : List Par} {α : Type} {i : Dsh α} {x : α} {y : A → α} {rk : A → List Rk} (hf : P.funcs[F]? = some fn) (d : gin ps → lns (i.lv x) → D P (fun a => R a ∧ rgd (rk a))) (h : (vcmT P fn ps i x y rk d).side true = (vcmT P fn ps i x y rk d).side false) : Cm P F ps i x R y rk := by
 have h := Tr.of_side h
 obtain ⟨h1, h⟩ := h
 refine ⟨fun w W0 b pre post t cs fp us rs st hp => ?_⟩
 split at h
 ·next c hb =>
  have hl : us.length + 1 ≤ fn.ntmps := by rw [hp.len]; exact Nat.le_of_ble_eq_true h1
  refine enter (Value.pointer (some ⟨b, pre.length, none⟩) :: us) hf hb rfl hl ?_
  have st1 : St w W0 (Res.pc cs (i.lv x) fp :: ([Res.bx b (pre ++ cs ++ post) t] ++ [Res.all rs])) := by
   have := St.all_in (a := [Res.bx b (pre ++ cs ++ post) t, Res.pc cs (i.lv x) fp]) st
   exact this.swap
  refine jV (s := ⟨[], [(bigN, .raw (Res.all rs))], [], 1⟩) (rs := [Res.bx b (pre ++ cs ++ post) t]) (h ((b, t), (pre, post, Res.all rs))) st1 fun scs s1 h2 e1 e2 e3 _ st2 hn => ?_
  have st3 : St w W0 (S.rs ⟨[(0, one (.pt 0 b pre.length 0))], (0, .bx b pre scs post t) :: s1.O, s1.B, s1.nx⟩) := by
   have : St w W0 (Res.bx b (pre ++ cs ++ post) t :: s1.rs) := st2
   rw [← e1] at this
   exact this
  have hret : ∀ {s : S} {d : D P (fun a => R a ∧ rgd (rk a))} {f : Nat → Value} {W : World}, (retM P i y rk fn.ntmps fn.results.toList b t pre post (Res.all rs) s d).holds → Den w s f W → ∃ v, (results fn (act fn.ntmps f).tmps).run P W = .ok v W ∧ ∃ a vs cs' fp' rr, R a ∧ Ending.returned v = .returned (wE vs) ∧ Rks vs (rk a) rr ∧ St w W (Res.bx b (pre ++ cs' ++ post) t :: Res.pc cs' (i.lv (y a)) fp' :: (rr ++ rs)) := by
   intro s d f W h den
   refine jL h den fun s1 d1 h1 den1 => ?_
   split at h1
   ·next a ha =>
    split at h1
    ·next b' pre' cs' post' t' hj =>
     obtain ⟨rfl, rfl, rfl, rfl, g2⟩ := h1
     have st : St w W (Or s1.O ++ []) := by simpa [Or, S.rs] using den1.st
     have g1 : St w W (Or (dI s1.O 0) ++ [Res.bx b' (pre' ++ cs'.map Sc.val ++ post') t']) := by
      have := st.take hj
      rw [append_nil] at this
      exact this.perm (perm_append_comm (l₁ := Or (dI s1.O 0)) (l₂ := [_]))
     refine eG g2 g1 fun O' fp' h3 st2 => (wI den1 h3 fun ts hts h4 => ?_)
     have st3 : St w W (Or O' ++ [Res.pc (cs'.map Sc.val) (i.lv (y a)) fp', Res.bx b' (pre' ++ cs'.map Sc.val ++ post') t']) := st2.perm (perm_middle (a := Res.pc (cs'.map Sc.val) (i.lv (y a)) fp') (l₁ := Or O') (l₂ := [_]))
     obtain ⟨rr, O2, hK, h5, st4⟩ := aF6 h4 ha.2 st3
     split at hK
     ·next r' hr =>
      obtain ⟨rfl, _⟩ := hK
      have st5 := st4.take hr
      have st6 : St w W ((Res.bx b' (pre' ++ cs'.map Sc.val ++ post') t' :: Res.pc (cs'.map Sc.val) (i.lv (y a)) fp' :: rr) ++ [Res.all rs]) := by
       have st7 : St w W (Res.all rs :: (rr ++ [Res.pc (cs'.map Sc.val) (i.lv (y a)) fp', Res.bx b' (pre' ++ cs'.map Sc.val ++ post') t'])) := st5.sub (List.Sublist.cons_cons _ (sublist_append_right _ _))
       refine st7.perm ((perm_append_comm (l₂ := [Res.all rs])).trans (List.Perm.cons _ ((List.Perm.swap _ _ _).trans ?_)))
       exact perm_append_comm (l₁ := [Res.pc (cs'.map Sc.val) (i.lv (y a)) fp', Res.bx b' (pre' ++ cs'.map Sc.val ++ post') t']) (l₂ := rr)
      have st8 := St.all_out st6
      exact ⟨_, qJ hts, a, _, cs'.map Sc.val, fp', rr, ha.1, rfl, h5, st8⟩
     exact hK.elim
    exact h1.elim
   exact h1.elim
  refine jX (t := 1) h2 hp (f := fun t => (Value.pointer (some ⟨b, pre.length, none⟩) :: us).getD t undef) (fun k v hk => by
   show (Value.pointer (some ⟨b, pre.length, none⟩) :: us).getD (1 + k) undef = v
   rw [Nat.add_comm, getD_eq_getElem?_getD, getElem?_cons_succ, hk]; rfl) (W := W0) ⟨?_, st3, by rw [e3]; intro e he; cases he⟩ fun s' h' den' hg => ?_
  ·refine Fr.know (E := []) (fun t x hx => by cases hx) 0 _ rfl
  refine aI2 c (h' hg hn) den' fun e s2 d2 f2 W2 h2 den2 => ?_
  cases e with
  | ret => exact ⟨rfl, hret h2 den2⟩
  | normal => exact ⟨rfl, hret h2 den2⟩
  | exit i => exact h2.elim
  | goto l => exact h2.elim
  | panic ch => exact h2.elim
  | outgrown => exact h2.elim
 exact h.elim
end
end Go.Proofs.YtanpcpoogkdlaaaGreat
namespace Go.Proofs.YtanpcpoogkdlaaaGreat
set_option linter.unusedSimpArgs false
set_option linter.unusedVariables false
set_option maxRecDepth 100000
set_option maxHeartbeats 2000000
open Go.RowKit Go.Proofs.Tryz List
abbrev lS {β : Type} [i : Shape β] (ys : List β) : Lf := .s β i ys
theorem aK {w : World} {cs : List Value} {u : Value} {ls : List Lf} {fp : List Nat} (h : eE w cs (.v u :: ls) fp) : ∃ r, cs = u :: r ∧ eE w r ls fp := by
 cases cs with
 | nil => exact h.elim
 | cons c r => exact ⟨r, by rw [h.1], h.2⟩
theorem dA {w : World} {cs : List Value} {β : Type} {i : Shape β} {ys : List β} {ls : List Lf} {fp : List Nat} (h : eE w cs (.s β i ys :: ls) fp) : ∃ c r f1 f2, cs = c :: r ∧ Sl w c ys f1 ∧ eE w r ls f2 ∧ fp = f1 ++ f2 := by
 cases cs with
 | nil => exact h.elim
 | cons c r => obtain ⟨f1, f2, h1, h2, h3⟩ := h; exact ⟨c, r, f1, f2, rfl, h1, h2, h3⟩
theorem dB {w : World} {cs : List Value} {fp : List Nat} (h : eE w cs [] fp) : cs = [] ∧ fp = [] := by
 cases cs with
 | nil => exact ⟨rfl, h⟩
 | cons => exact h.elim
instance : Dsh Int where
 lv := fun n => [.v (I n)]
 good := I64
 out := fun ⟨h1, h2, h3⟩ => by subst h1; subst h2; exact ⟨h3, rfl, rfl⟩
 inn := fun hg h => by obtain ⟨r, rfl, h2⟩ := aK h; obtain ⟨rfl, rfl⟩ := dB h2; exact ⟨rfl, rfl, hg⟩
instance : Dsh Bool where
 lv := fun b => [.v (.bool b)]
 good := fun _ => True
 out := fun ⟨h1, h2, h3⟩ => by subst h1; subst h2; exact ⟨h3, rfl, rfl⟩
 inn := fun hg h => by obtain ⟨r, rfl, h2⟩ := aK h; obtain ⟨rfl, rfl⟩ := dB h2; exact ⟨rfl, rfl, hg⟩
instance : Dsh ByteArray where
 lv := fun b => [.v (.string b)]
 good := fun s => s.size ≤ maxLen
 out := fun ⟨h1, h2, h3⟩ => by subst h1; subst h2; exact ⟨h3, rfl, rfl⟩
 inn := fun hg h => by obtain ⟨r, rfl, h2⟩ := aK h; obtain ⟨rfl, rfl⟩ := dB h2; exact ⟨rfl, rfl, hg⟩
instance {α : Type} [Shape α] : Dsh (List α) where
 lv := fun xs => [.s α _ xs]
 good := fun _ => True
 out := fun ⟨v, h1, h2⟩ => by subst h1; exact ⟨trivial, _, [], h2, rfl, by simp⟩
 inn := fun hg h => by obtain ⟨c, r, f1, f2, rfl, h1, h2, rfl⟩ := dA h; obtain ⟨rfl, rfl⟩ := dB h2; exact ⟨c, rfl, by simpa using h1⟩
instance : Dsh Edge where
 lv := fun x => [.v (I x.from_), .v (I x.to_)]
 good := Edge.ok
 out := fun {w cs x fp} h => by obtain ⟨h1, h2, h3⟩ := h; subst h1; subst h2; exact ⟨h3, rfl, rfl, rfl⟩
 inn := fun hg h => by obtain ⟨r0, e0, z0⟩ := aK h; obtain ⟨r1, e1, z1⟩ := aK z0; obtain ⟨e2, p0⟩ := dB z1; subst e2 e1 e0; subst p0; exact ⟨rfl, rfl, hg⟩
instance : Dsh Plan where
 lv := fun x => [.v (I x.prio), .v (I x.most), .v (I x.wait), .v (I x.tasks), lS x.edges]
 good := Plan.ok
 out := fun {w cs x fp} h => by
  obtain ⟨v0, f0, hcs, hok, h0, hfp⟩ := h
  refine ⟨hok, ?_⟩
  rw [hcs, hfp]
  have h : eE w [I x.prio, I x.most, I x.wait, I x.tasks, v0] [.v (I x.prio), .v (I x.most), .v (I x.wait), .v (I x.tasks), lS x.edges] (f0 ++ []) := ⟨rfl, ⟨rfl, ⟨rfl, ⟨rfl, ⟨f0, _, h0, rfl, rfl⟩⟩⟩⟩⟩
  simpa using h
 inn := fun hg h => by
  obtain ⟨r0, e0, z0⟩ := aK h
  obtain ⟨r1, e1, z1⟩ := aK z0
  obtain ⟨r2, e2, z2⟩ := aK z1
  obtain ⟨r3, e3, z3⟩ := aK z2
  obtain ⟨c0, r4, f0, g0, e4, h0, z4, p0⟩ := dA z3
  obtain ⟨e5, p1⟩ := dB z4
  subst e5 e4 e3 e2 e1 e0
  subst p1 p0
  exact ⟨c0, f0, rfl, hg, h0, by simp⟩
instance : Dsh Entry where
 lv := fun x => [.v (I x.prio), .v (I x.seq), .v (I x.run), .v (I x.task)]
 good := Entry.ok
 out := fun {w cs x fp} h => by obtain ⟨h1, h2, h3⟩ := h; subst h1; subst h2; exact ⟨h3, rfl, rfl, rfl, rfl, rfl⟩
 inn := fun hg h => by obtain ⟨r0, e0, z0⟩ := aK h; obtain ⟨r1, e1, z1⟩ := aK z0; obtain ⟨r2, e2, z2⟩ := aK z1; obtain ⟨r3, e3, z3⟩ := aK z2; obtain ⟨e4, p0⟩ := dB z3; subst e4 e3 e2 e1 e0; subst p0; exact ⟨rfl, rfl, hg⟩
instance : Dsh Task where
 lv := fun x => [.v (I x.state), .v (I x.need), .v (I x.try_), .v (I x.until_)]
 good := Task.ok
 out := fun {w cs x fp} h => by obtain ⟨h1, h2, h3⟩ := h; subst h1; subst h2; exact ⟨h3, rfl, rfl, rfl, rfl, rfl⟩
 inn := fun hg h => by obtain ⟨r0, e0, z0⟩ := aK h; obtain ⟨r1, e1, z1⟩ := aK z0; obtain ⟨r2, e2, z2⟩ := aK z1; obtain ⟨r3, e3, z3⟩ := aK z2; obtain ⟨e4, p0⟩ := dB z3; subst e4 e3 e2 e1 e0; subst p0; exact ⟨rfl, rfl, hg⟩
instance : Dsh Run where
 lv := fun x => [.v (I x.id), .v (I x.plan.prio), .v (I x.plan.most), .v (I x.plan.wait), .v (I x.plan.tasks), lS x.plan.edges, .v (I x.state), lS x.tasks]
 good := Run.ok
 out := fun {w cs x fp} h => by
  obtain ⟨v0, v1, f0, f1, hcs, hok, h0, h1, hfp⟩ := h
  refine ⟨hok, ?_⟩
  rw [hcs, hfp]
  have h : eE w [I x.id, I x.plan.prio, I x.plan.most, I x.plan.wait, I x.plan.tasks, v0, I x.state, v1] [.v (I x.id), .v (I x.plan.prio), .v (I x.plan.most), .v (I x.plan.wait), .v (I x.plan.tasks), lS x.plan.edges, .v (I x.state), lS x.tasks] (f0 ++ (f1 ++ [])) := ⟨rfl, ⟨rfl, ⟨rfl, ⟨rfl, ⟨rfl, ⟨f0, _, h0, ⟨rfl, ⟨f1, _, h1, rfl, rfl⟩⟩, rfl⟩⟩⟩⟩⟩⟩
  simpa using h
 inn := fun hg h => by
  obtain ⟨r0, e0, z0⟩ := aK h
  obtain ⟨r1, e1, z1⟩ := aK z0
  obtain ⟨r2, e2, z2⟩ := aK z1
  obtain ⟨r3, e3, z3⟩ := aK z2
  obtain ⟨r4, e4, z4⟩ := aK z3
  obtain ⟨c0, r5, f0, g0, e5, h0, z5, p0⟩ := dA z4
  obtain ⟨r6, e6, z6⟩ := aK z5
  obtain ⟨c1, r7, f1, g1, e7, h1, z7, p1⟩ := dA z6
  obtain ⟨e8, p2⟩ := dB z7
  subst e8 e7 e6 e5 e4 e3 e2 e1 e0
  subst p2 p1 p0
  exact ⟨c0, c1, f0, f1, rfl, hg, h0, h1, by simp⟩
instance : Dsh Yard where
 lv := fun x => [.v (I x.now), .v (I x.seq), lS x.shelf, lS x.runs]
 good := Yard.ok
 out := fun {w cs x fp} h => by
  obtain ⟨v0, v1, f0, f1, hcs, hok, h0, h1, hfp⟩ := h
  refine ⟨hok, ?_⟩
  rw [hcs, hfp]
  have h : eE w [I x.now, I x.seq, v0, v1] [.v (I x.now), .v (I x.seq), lS x.shelf, lS x.runs] (f0 ++ (f1 ++ [])) := ⟨rfl, ⟨rfl, ⟨f0, _, h0, ⟨f1, _, h1, rfl, rfl⟩, rfl⟩⟩⟩
  simpa using h
 inn := fun hg h => by
  obtain ⟨r0, e0, z0⟩ := aK h
  obtain ⟨r1, e1, z1⟩ := aK z0
  obtain ⟨c0, r2, f0, g0, e2, h0, z2, p0⟩ := dA z1
  obtain ⟨c1, r3, f1, g1, e3, h1, z3, p1⟩ := dA z2
  obtain ⟨e4, p2⟩ := dB z3
  subst e4 e3 e2 e1 e0
  subst p2 p1 p0
  exact ⟨c0, c1, f0, f1, rfl, hg, h0, h1, by simp⟩
instance : Dsh Reply where
 lv := fun x => [.v (I x.code), .v (I x.run), .v (I x.task), .v (I x.try_)]
 good := Reply.ok
 out := fun {w cs x fp} h => by obtain ⟨h1, h2, h3⟩ := h; subst h1; subst h2; exact ⟨h3, rfl, rfl, rfl, rfl, rfl⟩
 inn := fun hg h => by obtain ⟨r0, e0, z0⟩ := aK h; obtain ⟨r1, e1, z1⟩ := aK z0; obtain ⟨r2, e2, z2⟩ := aK z1; obtain ⟨r3, e3, z3⟩ := aK z2; obtain ⟨e4, p0⟩ := dB z3; subst e4 e3 e2 e1 e0; subst p0; exact ⟨rfl, rfl, hg⟩
instance : Dsh Deed where
 lv := fun x => [.v (I x.kind), .v (I x.run), .v (I x.plan.prio), .v (I x.plan.most), .v (I x.plan.wait), .v (I x.plan.tasks), lS x.plan.edges, .v (I x.task), .v (I x.try_), .v (I x.worker), .v (I x.draw)]
 good := Deed.ok
 out := fun {w cs x fp} h => by
  obtain ⟨v0, f0, hcs, hok, h0, hfp⟩ := h
  refine ⟨hok, ?_⟩
  rw [hcs, hfp]
  have h : eE w [I x.kind, I x.run, I x.plan.prio, I x.plan.most, I x.plan.wait, I x.plan.tasks, v0, I x.task, I x.try_, I x.worker, I x.draw] [.v (I x.kind), .v (I x.run), .v (I x.plan.prio), .v (I x.plan.most), .v (I x.plan.wait), .v (I x.plan.tasks), lS x.plan.edges, .v (I x.task), .v (I x.try_), .v (I x.worker), .v (I x.draw)] (f0 ++ []) := ⟨rfl, ⟨rfl, ⟨rfl, ⟨rfl, ⟨rfl, ⟨rfl, ⟨f0, _, h0, ⟨rfl, ⟨rfl, ⟨rfl, ⟨rfl, rfl⟩⟩⟩⟩, rfl⟩⟩⟩⟩⟩⟩⟩
  simpa using h
 inn := fun hg h => by
  obtain ⟨r0, e0, z0⟩ := aK h
  obtain ⟨r1, e1, z1⟩ := aK z0
  obtain ⟨r2, e2, z2⟩ := aK z1
  obtain ⟨r3, e3, z3⟩ := aK z2
  obtain ⟨r4, e4, z4⟩ := aK z3
  obtain ⟨r5, e5, z5⟩ := aK z4
  obtain ⟨c0, r6, f0, g0, e6, h0, z6, p0⟩ := dA z5
  obtain ⟨r7, e7, z7⟩ := aK z6
  obtain ⟨r8, e8, z8⟩ := aK z7
  obtain ⟨r9, e9, z9⟩ := aK z8
  obtain ⟨r10, e10, z10⟩ := aK z9
  obtain ⟨e11, p1⟩ := dB z10
  subst e11 e10 e9 e8 e7 e6 e5 e4 e3 e2 e1 e0
  subst p1 p0
  exact ⟨c0, f0, rfl, hg, h0, by simp⟩
instance : Dsh Note where
 lv := fun x => [.v (I x.seq), .v (I x.deed.kind), .v (I x.deed.run), .v (I x.deed.plan.prio), .v (I x.deed.plan.most), .v (I x.deed.plan.wait), .v (I x.deed.plan.tasks), lS x.deed.plan.edges, .v (I x.deed.task), .v (I x.deed.try_), .v (I x.deed.worker), .v (I x.deed.draw)]
 good := Note.ok
 out := fun {w cs x fp} h => by
  obtain ⟨v0, f0, hcs, hok, h0, hfp⟩ := h
  refine ⟨hok, ?_⟩
  rw [hcs, hfp]
  have h : eE w [I x.seq, I x.deed.kind, I x.deed.run, I x.deed.plan.prio, I x.deed.plan.most, I x.deed.plan.wait, I x.deed.plan.tasks, v0, I x.deed.task, I x.deed.try_, I x.deed.worker, I x.deed.draw] [.v (I x.seq), .v (I x.deed.kind), .v (I x.deed.run), .v (I x.deed.plan.prio), .v (I x.deed.plan.most), .v (I x.deed.plan.wait), .v (I x.deed.plan.tasks), lS x.deed.plan.edges, .v (I x.deed.task), .v (I x.deed.try_), .v (I x.deed.worker), .v (I x.deed.draw)] (f0 ++ []) := ⟨rfl, ⟨rfl, ⟨rfl, ⟨rfl, ⟨rfl, ⟨rfl, ⟨rfl, ⟨f0, _, h0, ⟨rfl, ⟨rfl, ⟨rfl, ⟨rfl, rfl⟩⟩⟩⟩, rfl⟩⟩⟩⟩⟩⟩⟩⟩
  simpa using h
 inn := fun hg h => by
  obtain ⟨r0, e0, z0⟩ := aK h
  obtain ⟨r1, e1, z1⟩ := aK z0
  obtain ⟨r2, e2, z2⟩ := aK z1
  obtain ⟨r3, e3, z3⟩ := aK z2
  obtain ⟨r4, e4, z4⟩ := aK z3
  obtain ⟨r5, e5, z5⟩ := aK z4
  obtain ⟨r6, e6, z6⟩ := aK z5
  obtain ⟨c0, r7, f0, g0, e7, h0, z7, p0⟩ := dA z6
  obtain ⟨r8, e8, z8⟩ := aK z7
  obtain ⟨r9, e9, z9⟩ := aK z8
  obtain ⟨r10, e10, z10⟩ := aK z9
  obtain ⟨r11, e11, z11⟩ := aK z10
  obtain ⟨e12, p1⟩ := dB z11
  subst e12 e11 e10 e9 e8 e7 e6 e5 e4 e3 e2 e1 e0
  subst p1 p0
  exact ⟨c0, f0, rfl, hg, h0, by simp⟩
instance : Dsh Wait where
 lv := fun x => [.v (I x.call), .v (I x.reply.code), .v (I x.reply.run), .v (I x.reply.task), .v (I x.reply.try_)]
 good := Wait.ok
 out := fun {w cs x fp} h => by obtain ⟨h1, h2, h3⟩ := h; subst h1; subst h2; exact ⟨h3, rfl, rfl, rfl, rfl, rfl, rfl⟩
 inn := fun hg h => by obtain ⟨r0, e0, z0⟩ := aK h; obtain ⟨r1, e1, z1⟩ := aK z0; obtain ⟨r2, e2, z2⟩ := aK z1; obtain ⟨r3, e3, z3⟩ := aK z2; obtain ⟨r4, e4, z4⟩ := aK z3; obtain ⟨e5, p0⟩ := dB z4; subst e5 e4 e3 e2 e1 e0; subst p0; exact ⟨rfl, rfl, hg⟩
instance : Dsh File where
 lv := fun x => [.v (.string x.name), .v (.string x.data), .v (I x.safe)]
 good := File.ok
 out := fun {w cs x fp} h => by obtain ⟨h1, h2, h3⟩ := h; subst h1; subst h2; exact ⟨h3, rfl, rfl, rfl, rfl⟩
 inn := fun hg h => by obtain ⟨r0, e0, z0⟩ := aK h; obtain ⟨r1, e1, z1⟩ := aK z0; obtain ⟨r2, e2, z2⟩ := aK z1; obtain ⟨e3, p0⟩ := dB z2; subst e3 e2 e1 e0; subst p0; exact ⟨rfl, rfl, hg⟩
instance : Dsh Disk where
 lv := fun x => [lS x.files]
 good := Disk.ok
 out := fun {w cs x fp} h => by
  obtain ⟨v0, f0, hcs, hok, h0, hfp⟩ := h
  refine ⟨hok, ?_⟩
  rw [hcs, hfp]
  have h : eE w [v0] [lS x.files] (f0 ++ []) := ⟨f0, _, h0, rfl, rfl⟩
  simpa using h
 inn := fun hg h => by
  obtain ⟨c0, r0, f0, g0, e0, h0, z0, p0⟩ := dA h
  obtain ⟨e1, p1⟩ := dB z0
  subst e1 e0
  subst p1 p0
  exact ⟨c0, f0, rfl, hg, h0, by simp⟩
instance : Dsh Engine where
 lv := fun x => [.v (I x.yard.now), .v (I x.yard.seq), lS x.yard.shelf, lS x.yard.runs, lS x.disk.files, .v (I x.next), .v (I x.calls), lS x.waits, .v (I x.state), .v (.bool x.broken)]
 good := Engine.ok
 out := fun {w cs x fp} h => by
  obtain ⟨v0, v1, v2, v3, f0, f1, f2, f3, hcs, hok, h0, h1, h2, h3, hfp⟩ := h
  refine ⟨hok, ?_⟩
  rw [hcs, hfp]
  have h : eE w [I x.yard.now, I x.yard.seq, v0, v1, v2, I x.next, I x.calls, v3, I x.state, .bool x.broken] [.v (I x.yard.now), .v (I x.yard.seq), lS x.yard.shelf, lS x.yard.runs, lS x.disk.files, .v (I x.next), .v (I x.calls), lS x.waits, .v (I x.state), .v (.bool x.broken)] (f0 ++ (f1 ++ (f2 ++ (f3 ++ [])))) := ⟨rfl, ⟨rfl, ⟨f0, _, h0, ⟨f1, _, h1, ⟨f2, _, h2, ⟨rfl, ⟨rfl, ⟨f3, _, h3, ⟨rfl, ⟨rfl, rfl⟩⟩, rfl⟩⟩⟩, rfl⟩, rfl⟩, rfl⟩⟩⟩
  simpa using h
 inn := fun hg h => by
  obtain ⟨r0, e0, z0⟩ := aK h
  obtain ⟨r1, e1, z1⟩ := aK z0
  obtain ⟨c0, r2, f0, g0, e2, h0, z2, p0⟩ := dA z1
  obtain ⟨c1, r3, f1, g1, e3, h1, z3, p1⟩ := dA z2
  obtain ⟨c2, r4, f2, g2, e4, h2, z4, p2⟩ := dA z3
  obtain ⟨r5, e5, z5⟩ := aK z4
  obtain ⟨r6, e6, z6⟩ := aK z5
  obtain ⟨c3, r7, f3, g3, e7, h3, z7, p3⟩ := dA z6
  obtain ⟨r8, e8, z8⟩ := aK z7
  obtain ⟨r9, e9, z9⟩ := aK z8
  obtain ⟨e10, p4⟩ := dB z9
  subst e10 e9 e8 e7 e6 e5 e4 e3 e2 e1 e0
  subst p4 p3 p2 p1 p0
  exact ⟨c0, c1, c2, c3, f0, f1, f2, f3, rfl, hg, h0, h1, h2, h3, by simp⟩
instance : Dsh WorldD where
 lv := fun x => [.v (I x.engine.yard.now), .v (I x.engine.yard.seq), lS x.engine.yard.shelf, lS x.engine.yard.runs, lS x.engine.disk.files, .v (I x.engine.next), .v (I x.engine.calls), lS x.engine.waits, .v (I x.engine.state), .v (.bool x.engine.broken), lS x.deeds, lS x.replies, .v (I x.told), .v (I x.fell)]
 good := WorldD.ok
 out := fun {w cs x fp} h => by
  obtain ⟨v0, v1, v2, v3, v4, v5, f0, f1, f2, f3, f4, f5, hcs, hok, h0, h1, h2, h3, h4, h5, hfp⟩ := h
  refine ⟨hok, ?_⟩
  rw [hcs, hfp]
  have h : eE w [I x.engine.yard.now, I x.engine.yard.seq, v0, v1, v2, I x.engine.next, I x.engine.calls, v3, I x.engine.state, .bool x.engine.broken, v4, v5, I x.told, I x.fell] [.v (I x.engine.yard.now), .v (I x.engine.yard.seq), lS x.engine.yard.shelf, lS x.engine.yard.runs, lS x.engine.disk.files, .v (I x.engine.next), .v (I x.engine.calls), lS x.engine.waits, .v (I x.engine.state), .v (.bool x.engine.broken), lS x.deeds, lS x.replies, .v (I x.told), .v (I x.fell)] (f0 ++ (f1 ++ (f2 ++ (f3 ++ (f4 ++ (f5 ++ [])))))) := ⟨rfl, ⟨rfl, ⟨f0, _, h0, ⟨f1, _, h1, ⟨f2, _, h2, ⟨rfl, ⟨rfl, ⟨f3, _, h3, ⟨rfl, ⟨rfl, ⟨f4, _, h4, ⟨f5, _, h5, ⟨rfl, ⟨rfl, rfl⟩⟩, rfl⟩, rfl⟩⟩⟩, rfl⟩⟩⟩, rfl⟩, rfl⟩, rfl⟩⟩⟩
  simpa using h
 inn := fun hg h => by
  obtain ⟨r0, e0, z0⟩ := aK h
  obtain ⟨r1, e1, z1⟩ := aK z0
  obtain ⟨c0, r2, f0, g0, e2, h0, z2, p0⟩ := dA z1
  obtain ⟨c1, r3, f1, g1, e3, h1, z3, p1⟩ := dA z2
  obtain ⟨c2, r4, f2, g2, e4, h2, z4, p2⟩ := dA z3
  obtain ⟨r5, e5, z5⟩ := aK z4
  obtain ⟨r6, e6, z6⟩ := aK z5
  obtain ⟨c3, r7, f3, g3, e7, h3, z7, p3⟩ := dA z6
  obtain ⟨r8, e8, z8⟩ := aK z7
  obtain ⟨r9, e9, z9⟩ := aK z8
  obtain ⟨c4, r10, f4, g4, e10, h4, z10, p4⟩ := dA z9
  obtain ⟨c5, r11, f5, g5, e11, h5, z11, p5⟩ := dA z10
  obtain ⟨r12, e12, z12⟩ := aK z11
  obtain ⟨r13, e13, z13⟩ := aK z12
  obtain ⟨e14, p6⟩ := dB z13
  subst e14 e13 e12 e11 e10 e9 e8 e7 e6 e5 e4 e3 e2 e1 e0
  subst p6 p5 p4 p3 p2 p1 p0
  exact ⟨c0, c1, c2, c3, c4, c5, f0, f1, f2, f3, f4, f5, rfl, hg, h0, h1, h2, h3, h4, h5, by simp⟩
instance : Dsh ActD where
 lv := fun x => [.v (I x.kind), .v (I x.deed.kind), .v (I x.deed.run), .v (I x.deed.plan.prio), .v (I x.deed.plan.most), .v (I x.deed.plan.wait), .v (I x.deed.plan.tasks), lS x.deed.plan.edges, .v (I x.deed.task), .v (I x.deed.try_), .v (I x.deed.worker), .v (I x.deed.draw), .v (I x.n), lS x.keep]
 good := ActD.ok
 out := fun {w cs x fp} h => by
  obtain ⟨v0, v1, f0, f1, hcs, hok, h0, h1, hfp⟩ := h
  refine ⟨hok, ?_⟩
  rw [hcs, hfp]
  have h : eE w [I x.kind, I x.deed.kind, I x.deed.run, I x.deed.plan.prio, I x.deed.plan.most, I x.deed.plan.wait, I x.deed.plan.tasks, v0, I x.deed.task, I x.deed.try_, I x.deed.worker, I x.deed.draw, I x.n, v1] [.v (I x.kind), .v (I x.deed.kind), .v (I x.deed.run), .v (I x.deed.plan.prio), .v (I x.deed.plan.most), .v (I x.deed.plan.wait), .v (I x.deed.plan.tasks), lS x.deed.plan.edges, .v (I x.deed.task), .v (I x.deed.try_), .v (I x.deed.worker), .v (I x.deed.draw), .v (I x.n), lS x.keep] (f0 ++ (f1 ++ [])) := ⟨rfl, ⟨rfl, ⟨rfl, ⟨rfl, ⟨rfl, ⟨rfl, ⟨rfl, ⟨f0, _, h0, ⟨rfl, ⟨rfl, ⟨rfl, ⟨rfl, ⟨rfl, ⟨f1, _, h1, rfl, rfl⟩⟩⟩⟩⟩⟩, rfl⟩⟩⟩⟩⟩⟩⟩⟩
  simpa using h
 inn := fun hg h => by
  obtain ⟨r0, e0, z0⟩ := aK h
  obtain ⟨r1, e1, z1⟩ := aK z0
  obtain ⟨r2, e2, z2⟩ := aK z1
  obtain ⟨r3, e3, z3⟩ := aK z2
  obtain ⟨r4, e4, z4⟩ := aK z3
  obtain ⟨r5, e5, z5⟩ := aK z4
  obtain ⟨r6, e6, z6⟩ := aK z5
  obtain ⟨c0, r7, f0, g0, e7, h0, z7, p0⟩ := dA z6
  obtain ⟨r8, e8, z8⟩ := aK z7
  obtain ⟨r9, e9, z9⟩ := aK z8
  obtain ⟨r10, e10, z10⟩ := aK z9
  obtain ⟨r11, e11, z11⟩ := aK z10
  obtain ⟨r12, e12, z12⟩ := aK z11
  obtain ⟨c1, r13, f1, g1, e13, h1, z13, p1⟩ := dA z12
  obtain ⟨e14, p2⟩ := dB z13
  subst e14 e13 e12 e11 e10 e9 e8 e7 e6 e5 e4 e3 e2 e1 e0
  subst p2 p1 p0
  exact ⟨c0, c1, f0, f1, rfl, hg, h0, h1, by simp⟩
end Go.Proofs.YtanpcpoogkdlaaaGreat
namespace Go.Proofs.YtanpcpoogkdlaaaGreat
set_option linter.unusedSimpArgs false
set_option linter.unusedVariables false
set_option maxHeartbeats 2000000
open Go.RowKit Go.Proofs.Tryz List
theorem all1 {α : Type} {p : α → Prop} {y : α} (h : p y) : ∀ z ∈ [y], p z := fun z hz => by rw [mem_singleton] at hz; rw [hz]; exact h
theorem all2 {α : Type} {p : α → Prop} {x y : α} (h : p x) (h2 : p y) : ∀ z ∈ [x, y], p z := fun z hz => by
 rcases mem_cons.1 hz with rfl | hz
 ·exact h
 ·exact all1 h2 z hz
abbrev vi (e : Int) : Value := I e
namespace Par
abbrev I (e : Int) : Par := .v (vi e)
abbrev T (e : ByteArray) : Par := .v (.string e)
abbrev S {α : Type} [i : Dsh α] (x : α) : Par := .st i x
abbrev L {α : Type} [i : Shape α] (x : List α) : Par := .sl i x
end Par
namespace Rk
abbrev I (e : Int) : Rk := .v (vi e)
abbrev B (e : Bool) : Rk := .v (.bool e)
abbrev T (e : ByteArray) : Rk := .v (.string e)
abbrev S {α : Type} [i : Dsh α] (x : α) : Rk := .own i x
abbrev L {α : Type} [i : Shape α] (x : List α) : Rk := .sl i x
end Rk
abbrev vI (t : Nat) (e : Int) : Nat × Tv := (t, .c (.v (I e)))
abbrev vR (t j : Nat) : Nat × Tv := (t, .c (.r j))
abbrev oR {α : Type} [i : Shape α] (j e : Nat) (xs : List α) : Nat × To := (j, .row i e xs)
abbrev oO {α : Type} [i : Shape α] (j : Nat) (xs : List α) : Nat × To := (j, .own i xs)
abbrev oB (j : Nat) (cs : List Tc) : Nat × To := (j, .bx cs)
theorem Cg.one {P : Program} {F : FuncId} {G : Option Gr} {ps : List Par} {A : Type} {rk : A → List Rk} (a0 : A) (h : Cg P F G ps (fun a => a = a0) rk) : Cg P F G ps (fun _ : Unit => True) (fun _ => rk a0) :=
 ⟨fun w us hG hp => (h.run w us hG hp).mono fun e W hh => by
  obtain ⟨a, vs, rs, ha, hh⟩ := hh
  subst ha
  exact ⟨(), vs, rs, trivial, hh⟩⟩
theorem Ct.one {P : Program} {F : FuncId} {ps : List Par} {A : Type} {rk : A → List Rk} (a0 : A) (h : Ct P F ps (fun a => a = a0) rk) : Ct1 P F ps (rk a0) := Cg.one a0 h
theorem Cm.one {P : Program} {F : FuncId} {ps : List Par} {α : Type} {i : Dsh α} {x : α} {A : Type} {y : A → α} {rk : A → List Rk} (a0 : A) (h : Cm P F ps i x (fun a => a = a0) y rk) : Cm P F ps i x (fun _ : Unit => True) (fun _ => y a0) (fun _ => rk a0) :=
 ⟨fun w W0 b pre post t cs fp us rs st hp => (h.run w W0 b pre post t cs fp us rs st hp).mono fun e W hh => by
  obtain ⟨a, vs, cs', fp', rr, ha, hh⟩ := hh
  subst ha
  exact ⟨(), vs, cs', fp', rr, trivial, hh⟩⟩
theorem bnT {e : Bool} (h : (!e) = true) : e = false := by cases e <;> simp_all
theorem bnF {e : Bool} (h : (!e) = false) : e = true := by cases e <;> simp_all
namespace D
variable {P : Program} {A : Type} {R : A → Prop}
abbrev x {α : Type} [i : Dsh α] (xs : List α) (n : Nat) (k : ∀ x, xs[n]? = some x → i.good x → D P R) (h : n < xs.length := by omega) : D P R :=
 .ex (p := fun x => xs[n]? = some x) ⟨xs[n], getElem?_eq_getElem h⟩ fun x hx => .ix i xs n x hx n rfl (k x hx)
abbrev y {α : Type} [i : Dsh α] {xs : List α} {n : Nat} {x : α} (hx : xs[n]? = some x) (k : i.good x → D P R) : D P R := .ix i xs n x hx n rfl k
abbrev ye {α : Type} [i : Dsh α] {xs : List α} {n : Nat} {x : α} (hx : xs[n]? = some x) (e : Int) (k : i.good x → D P R) (he : e = n := by omega) : D P R := .ix i xs n x hx e he k
abbrev z (j n : Nat) (k : D P R) : D P R := .iy j n n rfl k
abbrev p (x y : Int) (k : D P R) (h : I64 (x + y) := by first | (unfold I64; omega) | (simp only [I64] at *; omega)) : D P R := .ad x y h k
abbrev m (x y : Int) (k : D P R) (h : I64 (x - y) := by first | (unfold I64; omega) | (simp only [I64] at *; omega)) : D P R := .su x y h k
abbrev o (x y : Int) (k : D P R) (h : I64 (x * y) := by first | (unfold I64; omega) | (simp only [I64] at *; omega)) : D P R := .mu x y h k
abbrev q (x y : Int) (k : D P R) (h : (0 ≤ x ∧ x ≤ 9223372036854775807) ∧ 0 < y := by omega) : D P R := .qu x y h k
abbrev s (p : Prop) [i : Decidable p] (t : p → D P R) (f : ¬ p → D P R) : D P R := .sp p i t f
abbrev u (p : Prop) [i : Decidable p] (t : ¬ p → D P R) (f : p → D P R) : D P R := .sn p i t f
abbrev v (e : Bool) (t : e = false → D P R) (f : e = true → D P R) : D P R := .sb (!e) (fun h => t (bnT h)) (fun h => f (bnF h))
abbrev kt (p : Prop) [i : Decidable p] (h : p) (k : D P R) : D P R := .kn (decide p) true (decide_eq_true h) k
abbrev kf (p : Prop) [i : Decidable p] (h : ¬ p) (k : D P R) : D P R := .kn (decide p) false (decide_eq_false h) k
abbrev c {ps : List Par} {rk : List Rk} {F : FuncId} {fn : Func} {G : Option Gr} (hf : P.funcs[F]? = some fn) (h : Cg P F G ps (fun _ : Unit => True) (fun _ => rk)) (k : gds rk → D P R) (hg : gps ps := by repeat' (first | exact trivial | assumption | constructor)) : D P R := .cq F hf h hg k
abbrev l {Γ : Type} (J : Γ → Prop) (m : Γ → Nat) (ks ko kb : List Nat) (TE : Γ → List (Nat × Tv)) (TO : Γ → List (Nat × To)) (g : Γ) (k : ∀ g, J g → Tok J m (m g) → D P R) (h : J g := by repeat' (first | exact trivial | assumption | omega | constructor)) : D P R := .lp J m ks ko kb TE TO g h [] k
abbrev n {Γ : Type} {J : Γ → Prop} {m : Γ → Nat} {c : Nat} (t : Tok J m c) (g : Γ) (sg : List (Nat × Nat)) (h1 : J g := by repeat' (first | exact trivial | assumption | omega | constructor)) (h2 : m g < c := by first | omega | (dsimp only; omega)) : D P R := .nx t g h1 h2 sg
abbrev a {α : Type} [i : Dsh α] (xs : List α) (y : α) (bytes : Nat) (k : D P R) (hy : i.good y := by first | exact trivial | assumption | (show I64 _; unfold I64; omega)) (h63 : xs.length + 1 ≤ maxLen := by unfold maxLen; omega) (hby : (xs.length + 1) * bytes ≤ 140737488355328 := by omega) : D P R := .ap i xs [y] (all1 hy) bytes h63 hby k
abbrev g {α : Type} [i : Shape α] (j : Nat) {xs ys : List α} (h : xs = ys) (k : D P R) : D P R := .rw i j xs ys h k
abbrev e (α : Type) [i : Shape α] (k : D P R) : D P R := .em i k
abbrev w (α : Type) [i : Shape α] (e t : Nat) (k : D P R) : D P R := .rn i e t k
abbrev b {α : Type} [i : Dsh α] (j : Nat) (xs : List α) (n : Nat) (k : ∀ x, xs[n]? = some x → i.good x → D P R) (h : n < xs.length := by omega) : D P R :=
 .ex (p := fun x => xs[n]? = some x) ⟨xs[n], getElem?_eq_getElem h⟩ fun x hx => .le i j xs n x hx (k x hx)
abbrev d {α : Type} [i : Dsh α] (j : Nat) {xs : List α} {n : Nat} {x : α} (hx : xs[n]? = some x) (k : i.good x → D P R) : D P R := .le i j xs n x hx k
abbrev f {α : Type} [i : Dsh α] (j : Nat) (xs : List α) (y : α) (k : D P R) (h : i.good y := by first | exact trivial | assumption) : D P R := .gi i j xs y h k
abbrev i (n : Nat) (k : D P R) : D P R := .il n n rfl k
end D
end Go.Proofs.YtanpcpoogkdlaaaGreat
namespace Go.Proofs.YtanpcpoogkdlaaaGreat
set_option linter.unusedSimpArgs false
set_option linter.unusedVariables false
set_option maxRecDepth 100000
set_option maxHeartbeats 2000000
open Go.RowKit Go.Proofs.Tryz List
abbrev U (c : UInt8) : Value := .int .u8 (c.toNat : Int)
instance : Dsh UInt8 where
 lv := fun b => [.v (U b)]
 good := fun _ => True
 out := fun {w cs x fp} h => by obtain ⟨h1, h2, h3⟩ := h; subst h1; subst h2; exact ⟨h3, rfl, rfl⟩
 inn := fun hg h => by
  obtain ⟨r, e0, z0⟩ := aK h
  obtain ⟨e1, p1⟩ := dB z0
  subst e1 e0 p1
  exact ⟨rfl, rfl, hg⟩
theorem fN (c : UInt8) : c.toNat < 256 := by have := c.toNat_lt; omega
theorem tJ {P : Program} {t : TypeId} {s : ByteArray} {i : Nat} {c : UInt8} {e : Int} (hu : P.underlying t = some .string) (h : s.data.toList[i]? = some c) (he : e = i) : XOk P t (.string s) (I e) (U c) := by
 intro n f W Q K d ty pos af g xo yo hx hy k
 subst he
 obtain ⟨hi, rfl⟩ := gsi_.1 h
 refine Stp.run (v := U (s.data.toList[i])) ?_ k
 have hs : 0 ≤ (i : Int) ∧ (i : Int) < s.size := ⟨by omega, by have : s.size = s.data.toList.length := rfl; omega⟩
 have := run_index_string (P := P) (w := W) t s .i64 i hu
 rw [dif_pos hs] at this
 simp only [execOp, hx, hy, Sem.run_bind, this, Result.andThen_ok]; rfl
theorem hk_lt {P : Program} (a b : Int) : BOk P .lss (.int .u8 a) (.int .u8 b) (.bool (decide (a < b))) := by
 intro n f W Q K d ty pos af g t t' xo yo hx hy k
 refine Stp.run (v := .bool (decide (a < b))) ?_ k
 simp [execOp, hx, hy, go_sem]
theorem nR {P : Program} {t t' : TypeId} (c : UInt8) (hs : P.underlying t = some (.int .u8)) (hd : P.underlying t' = some (.int .i64)) : COk P t t' (U c) (I c.toNat) := by
 intro n f W Q K d ty pos af g xo hx k
 refine Stp.run (v := I c.toNat) ?_ k
 have hc := fN c
 have hk : P.intKind t' = .i64 := by simp [Program.intKind, hd]
 have hw : IntKind.i64.wrap (c.toNat : Int) = c.toNat := fD ⟨by omega, by omega⟩
 have hd' : P.underlying t' = some (.int (P.intKind t')) := by rw [hk]; exact hd
 have := run_convert_int (P := P) W t t' .u8 c.toNat (by rw [hs]; rfl) hd'
 rw [hk, hw] at this
 simp only [execOp, hx, Sem.run_bind, this, Result.andThen_ok]; rfl
theorem aH3 {P : Program} {t : TypeId} {s : ByteArray} {a b : Nat} (hu : P.underlying t = some .string) (h1 : a ≤ b) (h2 : b ≤ s.size) : LOk P t (.string s) (some (I a)) (some (I b)) (.string (s.extract a b)) := by
 intro n f W Q K d ty pos af g xo lo hi hx hl hh k
 cases lo with
 | none => cases hl
 | some lo =>
  cases hi with
  | none => cases hh
  | some hi =>
   simp only [Option.map_some, Option.some.injEq] at hl hh
   refine Stp.run (v := .string (s.extract a b)) ?_ k
   have := run_slice_string (P := P) W t s .i64 .i64 a b hu aC aC aC
   simp only [execOp, hx, hl, hh, Sem.run_bind, Option.map_some, Option.map_none]
   rw [run_sliceAt_string (h := hu)]
   have e : Sem.run P (Instr.slice t (Value.string s) (some (I a)) (some (I b)) none) W = Result.ok (Value.string (s.extract a b)) W := by simpa using this
   rw [e]; rfl
theorem pow_fin29 : ∀ s : Fin 29, (2 : Int) ^ s.val ≤ 268435456 ∧ 0 < (2 : Int) ^ s.val := by decide +kernel
theorem hk_shl {P : Program} {x y z : Int} (hx : 0 ≤ x ∧ x < 128) (hy : 0 ≤ y ∧ y ≤ 28) (hz : z = x * 2 ^ y.toNat) : BOk P .shl (I x) (I y) (I z) := by
 subst hz
 intro n f W Q K d ty pos af g t t' xo yo h1 h2 k
 refine Stp.run (v := I (x * 2 ^ y.toNat)) ?_ k
 have hn : ¬ (y < 0) := by omega
 have hm : min y.toNat 64 = y.toNat := by omega
 have hp := pow_fin29 ⟨y.toNat, by omega⟩
 simp only at hp
 have hb : x * 2 ^ y.toNat ≤ 128 * 268435456 := Int.mul_le_mul aC hp.1 aC aC
 have h0 : 0 ≤ x * 2 ^ y.toNat := Int.mul_nonneg hx.1 aC
 have hw : IntKind.i64.wrap (x * 2 ^ y.toNat) = x * 2 ^ y.toNat := fD ⟨by omega, by omega⟩
 simp only [execOp, h1, h2, Sem.run_bind, binOp, Op.shift, hn, if_false, Sem.run_pure, Result.andThen_ok]
 simp only [show IntKind.i64.bits = 64 from rfl, hm, hw]
 rfl
noncomputable def vAt (s : ByteArray) (a : Nat) : Int × Int :=
 match dX (s.data.toList.drop a) with
 | some (n, k) => ((n : Int), (a : Int) + k)
 | none => (0, -1)
theorem fU {s : ByteArray} {a : Nat} (h : dX (s.data.toList.drop a) = none) : (0, -1) = vAt s a := by unfold vAt; rw [h]
theorem lF {s : ByteArray} {a n k : Nat} (h : dX (s.data.toList.drop a) = some (n, k)) : ((n : Int), (a : Int) + k) = vAt s a := by unfold vAt; rw [h]
theorem hZ {s : ByteArray} {a i : Nat} {c : UInt8} (h : s.data.toList[a + i]? = some c) : (s.data.toList.drop a)[i]? = some c := by rw [getElem?_drop]; exact h
theorem at_lt {s : ByteArray} {a i : Nat} (h : (a : Int) + i < s.size) : a + i < s.data.toList.length := by
 have : s.data.toList.length = s.size := rfl
 omega
theorem gM (s : ByteArray) (a : Nat) : (s.data.toList.drop a).length = s.size - a := by rw [length_drop]; rfl
theorem VJ.zero (l : List UInt8) : VJ l 0 := ⟨Nat.zero_le _, fun j _ h => by omega⟩
theorem uR {l : List UInt8} {i : Nat} {c : UInt8} (h : l[i]? = some c) : dL (l.take (i + 1)) = dL (l.take i) + c.toNat % 128 * 128 ^ i := by
 obtain ⟨hi, rfl⟩ := gsi_.1 h
 rw [take_succ_eq_append_getElem hi, vdec_app, length_take, Nat.min_eq_left aC]
theorem zN : ∀ l : List UInt8, dL l < 128 ^ l.length
 | [] => by simp [dL]
 | b :: l => by
  have := zN l
  show b.toNat % 128 + 128 * dL l < 128 ^ (l.length + 1)
  rw [Nat.pow_succ]; omega
theorem aA5 {i : Nat} (h : i ≤ 5) : 128 ^ i ≤ 34359738368 := by
 have := Nat.pow_le_pow_right (n := 128) aC h
 simpa using this
theorem uQ (l : List UInt8) {i : Nat} (h : i ≤ 5) : dL (l.take i) < 34359738368 := by
 have h1 := zN (l.take i)
 have h2 := Nat.pow_le_pow_right (n := 128) aC (show (l.take i).length ≤ i by rw [length_take]; omega)
 have := aA5 h
 omega
theorem zE (c : UInt8) {i : Nat} (h : i ≤ 4) : c.toNat % 128 * 128 ^ i ≤ 127 * 268435456 := by
 have h1 : 128 ^ i ≤ 268435456 := by
  have := Nat.pow_le_pow_right (n := 128) aC h
  simpa using this
 exact Nat.mul_le_mul aC h1
theorem shl_eq (c : UInt8) (i : Nat) : ((c.toNat % 128 * 128 ^ i : Nat) : Int) = ((c.toNat : Int) % 128) * 2 ^ (7 * (i : Int)).toNat := by
 have e : (7 * (i : Int)).toNat = 7 * i := by omega
 rw [e, Int.natCast_mul, Int.natCast_pow, Int.pow_mul]
 rfl
theorem vt_len {n : Nat} {i : Nat} : ((dG (n : Int)).size : Int) = (i : Int) + 1 ↔ n ≤ 1000000000 ∧ (aR n).length = i + 1 := by
 unfold dG
 by_cases h : inB (n : Int) 0 1000000000 = true
 ·rw [if_pos h]
  have := inB_iff'.1 h
  have e : ((⟨(aR (n : Int).toNat).toArray⟩ : ByteArray).size) = (aR n).length := by simp [ByteArray.size]
  rw [e]
  constructor
  ·intro h2; exact ⟨by omega, by omega⟩
  intro h2; omega
 rw [if_neg h]
 have h2 : ¬ n ≤ 1000000000 := fun h3 => h (inB_iff'.2 ⟨by omega, by omega⟩)
 constructor
 ·intro h3
  have : ((⟨#[]⟩ : ByteArray).size : Int) = 0 := rfl
  omega
 intro h3; exact absurd h3.1 h2
theorem yE (n : Int) : Ct1 prog 202 [.I n] [.T (dG n)] := ⟨fun w us _ hp => by
 match us, hp with
 | [_], ⟨rfl, _⟩ => exact (VarTextI w n).mono fun e w' h => ⟨(), [_], [], trivial, h.1, ⟨[], [], ⟨rfl, rfl⟩, rfl, rfl⟩, h.2⟩⟩
theorem VarTextSD (n : Int) : Ct1 prog 214 [.I n] [.T (dG n)] := ⟨fun w us _ hp => by
 match us, hp with
 | [_], ⟨rfl, _⟩ => exact (VarTextS w n).mono fun e w' h => ⟨(), [_], [], trivial, h.1, ⟨[], [], ⟨rfl, rfl⟩, rfl, rfl⟩, h.2⟩⟩
theorem rS (x a b : Int) : Ct1 prog 92 [.I x, .I a, .I b] [.B (inB x a b)] :=
 .one (inB x a b) (rk := (fun a => [.B a])) <| vc func92 (fun hg => .s (a ≤ x) (fun h1 => .rt (decide (x ≤ b)) ⟨by unfold inB; simp [*], trivial⟩) (fun h1 => .rt false ⟨by unfold inB; simp [*], trivial⟩)) aD
theorem VarAtI (s : ByteArray) (a : Nat) (hs : s.size ≤ 1048576) (ha : a ≤ 1048576) : Ct1 prog 375 [.T s, .I a] [.I (vAt s a).1, .I (vAt s a).2] :=
 .one (vAt s a) (rk := fun a => [.I a.1, .I a.2]) <| vc func375 (fun hg => .m s.size 1 (h := by unfold I64; omega) <| .c func92 (rS a 0 ((s.size : Int) - 1)) fun _ => .v (inB (a : Int) 0 ((s.size : Int) - 1))
  (fun hb => .rt (0, -1) ⟨fU ((VJ.zero _).ends (by
   rw [gM]
   have h2 : ¬ (0 ≤ (a : Int) ∧ (a : Int) ≤ (s.size : Int) - 1) := fun h => by rw [inB_iff'.2 h] at hb; cases hb
   omega)), trivial⟩)
  (fun hb => .l (Γ := Nat) (fun i => VJ (s.data.toList.drop a) i ∧ i ≤ 5) (fun i => 5 - i) [0, 1] [] [] (fun i => [vI 6 (dL ((s.data.toList.drop a).take i)), vI 7 i]) (fun _ => []) 0 (h := ⟨VJ.zero _, by omega⟩) fun i hJ t =>
   .s ((i : Int) < 5)
    (fun hi => .p a i (h := by unfold I64; omega) <| .s ((a : Int) + i < s.size)
     (fun h2 => .ex (p := fun c => s.data.toList[a + i]? = some c) ⟨_, getElem?_eq_getElem (at_lt h2)⟩ fun c hc =>
      .p a i (h := by unfold I64; omega) <| .px (tJ (t := 9) (i := a + i) (e := (a : Int) + i) underlying9 hc aC) <| .pc (nR (t := 5) (t' := 3) c underlying5 underlying3) <|
      .q c.toNat 128 (h := by have := fN c; omega) <| .o 7 i (h := by unfold I64; omega) <|
      .pb .shl (hk_shl (x := (c.toNat : Int) % 128) (y := 7 * (i : Int)) aC aC (shl_eq c i)) <|
      .p (dL ((s.data.toList.drop a).take i)) ((c.toNat % 128 * 128 ^ i : Nat) : Int) (h := by have := uQ (s.data.toList.drop a) hJ.2; have := zE c (i := i) aC; unfold I64; omega) <|
      .rv 39 (I (dL ((s.data.toList.drop a).take (i + 1)))) (show I ((dL ((s.data.toList.drop a).take i) : Int) + ((c.toNat % 128 * 128 ^ i : Nat) : Int)) = I (dL ((s.data.toList.drop a).take (i + 1))) from congrArg I (by rw [uR (hZ hc)]; omega)) <|
      .s ((c.toNat : Int) < 128)
       (fun h3 => .c func202 (yE (dL ((s.data.toList.drop a).take (i + 1)))) fun _ => .p i 1 (h := by unfold I64; omega) <|
        .u (((dG (dL ((s.data.toList.drop a).take (i + 1)) : Int)).size : Int) = (i : Int) + 1)
         (fun h4 => .rt (0, -1) ⟨fU (hJ.1.not (hZ hc) aC (fun h => h4 (vt_len.2 h))), trivial⟩)
         (fun h4 => .p a i (h := by unfold I64; omega) <| .p ((a : Int) + i) 1 (h := by unfold I64; omega) <|
          .rt ((dL ((s.data.toList.drop a).take (i + 1)) : Int), (a : Int) + i + 1) ⟨by
           have h5 := vt_len.1 h4
           rw [← lF (hJ.1.found (hZ hc) aC h5.1 h5.2)]
           exact Prod.ext rfl (by show (a : Int) + i + 1 = (a : Int) + ((i + 1 : Nat) : Int); omega), trivial⟩))
       (fun h3 => .p i 1 (h := by unfold I64; omega) <| .n t (i + 1) [] ⟨hJ.1.next (hZ hc) aC, by omega⟩ aC))
     (fun h2 => .rt (0, -1) ⟨fU (hJ.1.ends (by rw [gM]; omega)), trivial⟩))
    (fun hi => .rt (0, -1) ⟨fU (VJ.five (by have h5 : i = 5 := by { have := hJ.2; omega }; rw [← h5]; exact hJ.1)), trivial⟩))) aD
theorem ext_pre {s : ByteArray} {a k : Nat} (h : a + k ≤ s.size) : (s.extract a (a + k)).data.toList = (s.data.toList.drop a).take k := by
 rw [Lib.extract_data]; congr 1; omega
theorem VJ.same {s : ByteArray} {a i : Nat} {c : UInt8} (h : VJ (s.data.toList.drop a) i) (hc : s.data.toList[a + i]? = some c) (h2 : c.toNat < 128) (hn : ¬ (1000000000 : Int) < dL ((s.data.toList.drop a).take (i + 1))) : (s.extract a (a + (i + 1)) = dG (dL ((s.data.toList.drop a).take (i + 1)) : Int)) ↔ (aR (dL ((s.data.toList.drop a).take (i + 1)))).length = i + 1 := by
 have hi : a + i < s.size := (gsi_.1 hc).1
 have hl : ((s.data.toList.drop a).take (i + 1)).length = i + 1 := by
  have := gM s a
  rw [length_take]; omega
 have e1 := ext_pre (s := s) (a := a) (k := i + 1) aC
 have e2 : dG (dL ((s.data.toList.drop a).take (i + 1)) : Int) = ⟨(aR (dL ((s.data.toList.drop a).take (i + 1)))).toArray⟩ := by
  unfold dG
  rw [if_pos (inB_iff'.2 ⟨by omega, by omega⟩)]
  rfl
 rw [e2]
 constructor
 ·intro h3
  have h4 : (s.extract a (a + (i + 1))).data.toList = aR (dL ((s.data.toList.drop a).take (i + 1))) := by rw [h3]
  rw [← h4, e1, hl]
 intro h3
 have h4 := (nE (h.good (hZ hc) h2)).2 (by rw [hl]; exact h3)
 rw [h4, ← e1]
theorem VarAtS (s : ByteArray) (a : Nat) (hs : s.size ≤ 1048576) (ha : a ≤ 1048576) : Ct1 prog 383 [.T s, .I a] [.I (vAt s a).1, .I (vAt s a).2] :=
 .one (vAt s a) (rk := fun a => [.I a.1, .I a.2]) <| vc func383 (fun hg => .kf ((a : Int) < 0) aC <|
  .l (Γ := Nat) (fun i => VJ (s.data.toList.drop a) i ∧ i ≤ 5) (fun i => 5 - i) [0, 1] [] [] (fun i => [vI 6 (dL ((s.data.toList.drop a).take i)), vI 7 ((128 ^ i : Nat) : Int), vI 8 ((a : Int) + i)]) (fun _ => []) 0 (h := ⟨VJ.zero _, by omega⟩) fun i hJ t =>
   .s ((a : Int) + i < s.size)
    (fun h2 => .p a 5 (h := by unfold I64; omega) <| .s ((a : Int) + i < (a : Int) + 5)
     (fun hi => .ex (p := fun c => s.data.toList[a + i]? = some c) ⟨_, getElem?_eq_getElem (at_lt h2)⟩ fun c hc =>
      .px (tJ (t := 9) (i := a + i) (e := (a : Int) + i) underlying9 hc aC) <| .pc (nR (t := 5) (t' := 3) c underlying5 underlying3) <|
      .q c.toNat 128 (h := by have := fN c; omega) <|
      .o ((c.toNat : Int) % 128) ((128 ^ i : Nat) : Int) (h := by have := zE c (i := i) aC; have e : ((c.toNat : Int) % 128) * ((128 ^ i : Nat) : Int) = ((c.toNat % 128 * 128 ^ i : Nat) : Int) := (by rw [Int.natCast_mul]; rfl); rw [e]; unfold I64; omega) <|
      .p (dL ((s.data.toList.drop a).take i)) (((c.toNat : Int) % 128) * ((128 ^ i : Nat) : Int)) (h := by have := uQ (s.data.toList.drop a) hJ.2; have := zE c (i := i) aC; have e : ((c.toNat : Int) % 128) * ((128 ^ i : Nat) : Int) = ((c.toNat % 128 * 128 ^ i : Nat) : Int) := (by rw [Int.natCast_mul]; rfl); rw [e]; unfold I64; omega) <|
      .rv 32 (I (dL ((s.data.toList.drop a).take (i + 1)))) (show I ((dL ((s.data.toList.drop a).take i) : Int) + ((c.toNat : Int) % 128) * ((128 ^ i : Nat) : Int)) = I (dL ((s.data.toList.drop a).take (i + 1))) from congrArg I (by have e : ((c.toNat : Int) % 128) * ((128 ^ i : Nat) : Int) = ((c.toNat % 128 * 128 ^ i : Nat) : Int) := (by rw [Int.natCast_mul]; rfl); rw [e, uR (hZ hc)]; omega)) <|
      .px (tJ (t := 9) (i := a + i) (e := (a : Int) + i) underlying9 hc aC) <| .pb .lss (hk_lt c.toNat 128) <|
      .s ((c.toNat : Int) < 128)
       (fun h3 => .s ((1000000000 : Int) < dL ((s.data.toList.drop a).take (i + 1)))
        (fun hb => .rt (0, -1) ⟨fU (hJ.1.not (hZ hc) aC (fun h => by omega)), trivial⟩)
        (fun hb => .p ((a : Int) + i) 1 (h := by unfold I64; omega) <| .pl (aH3 (t := 9) (s := s) (a := a) (b := a + (i + 1)) underlying9 aC aC) <|
         .c func214 (VarTextSD (dL ((s.data.toList.drop a).take (i + 1)))) fun _ =>
         .u (s.extract a (a + (i + 1)) = dG (dL ((s.data.toList.drop a).take (i + 1)) : Int))
          (fun h4 => .rt (0, -1) ⟨fU (hJ.1.not (hZ hc) aC (fun h => h4 ((VJ.same hJ.1 hc aC hb).2 h.2))), trivial⟩)
          (fun h4 => .p ((a : Int) + i) 1 (h := by unfold I64; omega) <|
           .rt ((dL ((s.data.toList.drop a).take (i + 1)) : Int), (a : Int) + i + 1) ⟨by
            rw [← lF (hJ.1.found (hZ hc) aC aC ((VJ.same hJ.1 hc aC hb).1 h4))]
            exact Prod.ext rfl (by show (a : Int) + i + 1 = (a : Int) + ((i + 1 : Nat) : Int); omega), trivial⟩)))
       (fun h3 => .o ((128 ^ i : Nat) : Int) 128 (h := by have h := aA5 hJ.2; revert h; generalize (128 ^ i : Nat) = q; intro h; unfold I64; omega) <|
        .rv 53 (I ((128 ^ (i + 1) : Nat) : Int)) (show I (((128 ^ i : Nat) : Int) * 128) = I ((128 ^ (i + 1) : Nat) : Int) from congrArg I (by rw [Nat.pow_succ]; omega)) <|
        .p ((a : Int) + i) 1 (h := by unfold I64; omega) <| .n t (i + 1) [] ⟨hJ.1.next (hZ hc) aC, by omega⟩ aC))
     (fun hi => .rt (0, -1) ⟨fU (VJ.five (by have h5 : i = 5 := by { have := hJ.2; omega }; rw [← h5]; exact hJ.1)), trivial⟩))
    (fun h2 => .rt (0, -1) ⟨fU (hJ.1.ends (by rw [gM]; omega)), trivial⟩)) aD
def fJ (l : List UInt8) : Nat := l.foldl (fun n c => 256 * n + c.toNat) 0
theorem iX {l : List UInt8} {i : Nat} {c : UInt8} (h : l[i]? = some c) : fJ (l.take (i + 1)) = 256 * fJ (l.take i) + c.toNat := by
 obtain ⟨hi, rfl⟩ := gsi_.1 h
 unfold fJ
 rw [take_succ_eq_append_getElem hi, foldl_append]
 rfl
theorem xX : ∀ (l : List UInt8) (n : Nat), l.foldl (fun n c => 256 * n + c.toNat) n < (n + 1) * 256 ^ l.length
 | [], n => by simp
 | c :: l, n => by
  have h := xX l (256 * n + c.toNat)
  have hc := fN c
  rw [foldl_cons, length_cons, Nat.pow_succ]
  refine Nat.lt_of_lt_of_le h ?_
  rw [Nat.mul_comm (256 ^ l.length) 256, ← Nat.mul_assoc]
  exact Nat.mul_le_mul_right _ aC
theorem kU (l : List UInt8) {i : Nat} (h : i ≤ 4) : fJ (l.take i) < 4294967296 := by
 have h1 := xX (l.take i) 0
 have h2 := Nat.pow_le_pow_right (n := 256) aC (show (l.take i).length ≤ 4 by rw [length_take]; omega)
 have e : (256 : Nat) ^ 4 = 4294967296 := by decide
 rw [e] at h2
 unfold fJ
 omega
def bX (s : ByteArray) (a : Nat) : Int × Bool := if a + 4 ≤ s.size then ((fJ ((s.data.toList.drop a).take 4) : Int), true) else (0, false)
theorem xW {s : ByteArray} {a : Nat} (h : ¬ a + 4 ≤ s.size) : (0, false) = bX s a := by unfold bX; rw [if_neg h]
theorem vH {s : ByteArray} {a : Nat} (h : a + 4 ≤ s.size) {z : Int} (e : z = (fJ ((s.data.toList.drop a).take 4) : Int)) : (z, true) = bX s a := by unfold bX; rw [if_pos h, e]
theorem oZ {s : ByteArray} {a : Nat} : (s.extract a (a + 4)).data.toList = (s.data.toList.drop a).take 4 := by
 rw [Lib.extract_data]; congr 1; omega
theorem rN {s : ByteArray} {a : Nat} (h : a + 4 ≤ s.size) : (s.extract a (a + 4)).data.toList.length = 4 := by
 rw [oZ, length_take, gM]; omega
theorem FourAtI (s : ByteArray) (a : Nat) (hs : s.size ≤ 1048576) (ha : a ≤ 1048576) : Ct1 prog 200 [.T s, .I a] [.I (bX s a).1, .B (bX s a).2] :=
 .one (bX s a) (rk := fun a => [.I a.1, .B a.2]) <| vc func200 (fun hg => .m s.size 4 (h := by unfold I64; omega) <| .c func92 (rS a 0 ((s.size : Int) - 4)) fun _ => .v (inB (a : Int) 0 ((s.size : Int) - 4))
  (fun hb => .rt (0, false) ⟨xW (fun h => by rw [inB_iff'.2 ⟨by omega, by omega⟩] at hb; cases hb), trivial⟩)
  (fun hb => let h4 : a + 4 ≤ s.size := by { have := inB_iff'.1 hb; omega }
   .p a 4 (h := by unfold I64; omega) <| .pl (aH3 (t := 9) (s := s) (a := a) (b := a + 4) underlying9 aC h4) <|
   .by_ (s.extract a (a + 4)) (by rw [ByteArray.size_extract]; unfold maxLen; omega) <|
   .l (Γ := Nat) (fun i => i ≤ 4) (fun i => 4 - i) [20, 21] [] [0] (fun i => [vI 6 (fJ ((s.extract a (a + 4)).data.toList.take i)), vI 22 i]) (fun _ => []) 0 (h := by omega) fun i hJ t =>
   .s ((i : Int) < (s.extract a (a + 4)).data.toList.length)
    (fun hi => .x (s.extract a (a + 4)).data.toList i (h := by omega) fun c hc _ => .o 256 (fJ ((s.extract a (a + 4)).data.toList.take i)) (h := by have := kU (s.extract a (a + 4)).data.toList hJ; unfold I64; omega) <|
     .pc (nR (t := 5) (t' := 3) c underlying5 underlying3) <|
     .p (256 * (fJ ((s.extract a (a + 4)).data.toList.take i) : Int)) c.toNat (h := by have := kU (s.extract a (a + 4)).data.toList hJ; have := fN c; unfold I64; omega) <|
     .rv 30 (I (fJ ((s.extract a (a + 4)).data.toList.take (i + 1)))) (show I (256 * (fJ ((s.extract a (a + 4)).data.toList.take i) : Int) + c.toNat) = I (fJ ((s.extract a (a + 4)).data.toList.take (i + 1))) from congrArg I (by rw [iX hc]; omega)) <|
     .p i 1 (h := by unfold I64; omega) <| .n t (i + 1) [] (by have := rN h4; omega) (by have := rN h4; omega))
    (fun hi => .rt ((fJ ((s.extract a (a + 4)).data.toList.take i) : Int), true) ⟨vH h4 (by
     have := rN h4
     rw [take_of_length_le aC, oZ]), trivial⟩))) aD
theorem four_at {s : ByteArray} {a : Nat} {c0 c1 c2 c3 : UInt8} (h0 : s.data.toList[a]? = some c0) (h1 : s.data.toList[a + 1]? = some c1) (h2 : s.data.toList[a + 2]? = some c2) (h3 : s.data.toList[a + 3]? = some c3) : fJ ((s.data.toList.drop a).take 4) = ((c0.toNat * 256 + c1.toNat) * 256 + c2.toNat) * 256 + c3.toNat := by
 have e0 : (s.data.toList.drop a)[0]? = some c0 := by rw [getElem?_drop]; exact h0
 have e1 : (s.data.toList.drop a)[1]? = some c1 := by rw [getElem?_drop]; exact h1
 have e2 : (s.data.toList.drop a)[2]? = some c2 := by rw [getElem?_drop]; exact h2
 have e3 : (s.data.toList.drop a)[3]? = some c3 := by rw [getElem?_drop]; exact h3
 rw [iX e3, iX e2, iX e1, iX e0]
 simp [fJ]; omega
theorem aD4 (s : ByteArray) (a : Nat) (hs : s.size ≤ 1048576) (ha : a ≤ 1048576) : Ct1 prog 240 [.T s, .I a] [.I (bX s a).1, .B (bX s a).2] :=
 .one (bX s a) (rk := fun a => [.I a.1, .B a.2]) <| vc func240 (fun hg => .kf ((a : Int) < 0) aC <| .m s.size 4 (h := by unfold I64; omega) <| .s ((s.size : Int) - 4 < a)
  (fun hb => .rt (0, false) ⟨xW aC, trivial⟩)
  (fun hb => let hl : s.data.toList.length = s.size := rfl
   .ex (p := fun c => s.data.toList[a]? = some c) ⟨_, getElem?_eq_getElem aC⟩ fun c0 h0 =>
   .ex (p := fun c => s.data.toList[a + 1]? = some c) ⟨_, getElem?_eq_getElem aC⟩ fun c1 h1 =>
   .ex (p := fun c => s.data.toList[a + 2]? = some c) ⟨_, getElem?_eq_getElem aC⟩ fun c2 h2 =>
   .ex (p := fun c => s.data.toList[a + 3]? = some c) ⟨_, getElem?_eq_getElem aC⟩ fun c3 h3 =>
   let b0 := fN c0
   let b1 := fN c1
   let b2 := fN c2
   let b3 := fN c3
   .px (tJ (t := 9) (i := a) (e := (a : Int)) underlying9 h0 rfl) <| .pc (nR (t := 5) (t' := 3) c0 underlying5 underlying3) <| .o c0.toNat 16777216 (h := by unfold I64; omega) <|
   .p a 1 (h := by unfold I64; omega) <| .px (tJ (t := 9) (i := a + 1) (e := (a : Int) + 1) underlying9 h1 rfl) <| .pc (nR (t := 5) (t' := 3) c1 underlying5 underlying3) <| .o c1.toNat 65536 (h := by unfold I64; omega) <|
   .p ((c0.toNat : Int) * 16777216) ((c1.toNat : Int) * 65536) (h := by unfold I64; omega) <|
   .p a 2 (h := by unfold I64; omega) <| .px (tJ (t := 9) (i := a + 2) (e := (a : Int) + 2) underlying9 h2 rfl) <| .pc (nR (t := 5) (t' := 3) c2 underlying5 underlying3) <| .o c2.toNat 256 (h := by unfold I64; omega) <|
   .p ((c0.toNat : Int) * 16777216 + (c1.toNat : Int) * 65536) ((c2.toNat : Int) * 256) (h := by unfold I64; omega) <|
   .p a 3 (h := by unfold I64; omega) <| .px (tJ (t := 9) (i := a + 3) (e := (a : Int) + 3) underlying9 h3 rfl) <| .pc (nR (t := 5) (t' := 3) c3 underlying5 underlying3) <|
   .p ((c0.toNat : Int) * 16777216 + (c1.toNat : Int) * 65536 + (c2.toNat : Int) * 256) c3.toNat (h := by unfold I64; omega) <|
   .rt ((c0.toNat : Int) * 16777216 + (c1.toNat : Int) * 65536 + (c2.toNat : Int) * 256 + c3.toNat, true) ⟨vH aC (by rw [four_at h0 h1 h2 h3]; omega), trivial⟩)) aD
def gO (x : Int) : UInt8 := UInt8.ofNat (x % 256).toNat
theorem hH (x : Int) : ((gO x).toNat : Int) = x % 256 := by
 unfold gO
 rw [UInt8.toNat_ofNat']
 omega
theorem rK {P : Program} {t t' : TypeId} (x : Int) (hs : (P.underlying t).isSome = true) (hd : P.underlying t' = some (.int .u8)) : COk P t t' (I x) (U (gO x)) := by
 intro n f W Q K d ty pos af g xo hx k
 refine Stp.run (v := U (gO x)) ?_ k
 have hw : IntKind.u8.wrap x = x % 256 := by simp [IntKind.wrap, IntKind.bits, IntKind.signed]
 have hd' : P.underlying t' = some (.int (P.intKind t')) := by rw [kR hd]; exact hd
 have := run_convert_int (P := P) W t t' .i64 x hs hd'
 rw [kR hd, hw] at this
 simp only [execOp, hx, Sem.run_bind, this, Result.andThen_ok]
 show Result.ok (Next.value (Value.int .u8 (x % 256))) W = Result.ok (Next.value (Value.int .u8 ((gO x).toNat : Int))) W
 rw [hH]
theorem pow_fin60 : ∀ s : Fin 60, 0 < (2 : Int) ^ s.val := by decide +kernel
theorem yY {P : Program} {x : Int} {k : IntKind} {s : Nat} (hx : 0 ≤ x ∧ x ≤ 9223372036854775807) (hs : s < 60) : BOk P .shr (I x) (.int k s) (I (x / 2 ^ s)) := by
 intro n f W Q K d ty pos af g t t' xo yo h1 h2 kk
 refine Stp.run (v := I (x / 2 ^ s)) ?_ kk
 have hn : ¬ ((s : Int) < 0) := by omega
 have hm : min s 64 = s := by omega
 have hp := pow_fin60 ⟨s, hs⟩
 simp only at hp
 have h : Int.fdiv x (2 ^ s) = x / 2 ^ s := Int.fdiv_eq_ediv_of_nonneg _ (Int.le_of_lt hp)
 have hle : x / 2 ^ s ≤ x := Int.ediv_le_self _ hx.1
 have h0 : 0 ≤ x / 2 ^ s := Int.ediv_nonneg hx.1 (Int.le_of_lt hp)
 have hw : IntKind.i64.wrap (x / 2 ^ s) = x / 2 ^ s := fD ⟨by omega, by omega⟩
 simp only [execOp, h1, h2, Sem.run_bind, binOp, Op.shift, hn, if_false, Int.toNat_natCast, Sem.run_pure, Result.andThen_ok]
 simp only [show IntKind.i64.bits = 64 from rfl, hm, h, hw]
 rfl
def iE (n : Int) : List UInt8 := [gO (n / 16777216), gO (n / 65536), gO (n / 256), gO n]
def dK (n : Int) : ByteArray := if inB n 0 4294967295 then ⟨(iE n).toArray⟩ else ⟨#[]⟩
theorem fourOf_no {n : Int} (h : inB n 0 4294967295 = false) : (⟨#[]⟩ : ByteArray) = dK n := by unfold dK; rw [h]; rfl
theorem fourOf_yes {n : Int} (h : inB n 0 4294967295 = true) : (⟨(iE n).toArray⟩ : ByteArray) = dK n := by unfold dK; rw [h]; rfl
theorem u8_good : ∀ (l : List UInt8), ∀ y ∈ l, (inferInstance : Dsh UInt8).good y := fun _ _ _ => trivial
theorem aD3 (n : Int) : Ct1 prog 196 [.I n] [.T (dK n)] :=
 .one (dK n) (rk := fun a => [.T a]) <| vc func196 (fun hg => .c func92 (rS n 0 4294967295) fun _ => .v (inB n 0 4294967295)
  (fun hb => .rt ⟨#[]⟩ ⟨fourOf_no hb, trivial⟩)
  (fun hb => let hr := inB_iff'.1 hb
   .pb .shr (yY (x := n) (k := .u64) (s := 24) aC aC) <| .pc (rK (t := 3) (t' := 5) (n / 2 ^ 24) rfl underlying5) <|
   .pb .shr (yY (x := n) (k := .u64) (s := 16) aC aC) <| .pc (rK (t := 3) (t' := 5) (n / 2 ^ 16) rfl underlying5) <|
   .pb .shr (yY (x := n) (k := .u64) (s := 8) aC aC) <| .pc (rK (t := 3) (t' := 5) (n / 2 ^ 8) rfl underlying5) <|
   .pc (rK (t := 3) (t' := 5) n rfl underlying5) <|
   .li (inferInstance : Dsh UInt8) 17 (iE n) (by simp [iE]) (by simp [iE]) (u8_good _) <| .so (iE n) <| .rt ⟨(iE n).toArray⟩ ⟨fourOf_yes hb, trivial⟩)) aD
theorem InV (x a b : Int) : Ct1 prog 138 [.I x, .I a, .I b] [.B (inB x a b)] :=
 .one (inB x a b) (rk := (fun a => [.B a])) <| vc func138 (fun hg => .s (a ≤ x) (fun h1 => .rt (decide (x ≤ b)) ⟨by unfold inB; simp [*], trivial⟩) (fun h1 => .rt false ⟨by unfold inB; simp [*], trivial⟩)) aD
theorem aB3 {P : Program} (x y : ByteArray) (h : x.size + y.size ≤ 9223372036854775807) : BOk P .add (.string x) (.string y) (.string (x ++ y)) := by
 intro n f W Q K d ty pos af g t t' xo yo h1 h2 k
 exact sD h1 h2 h k
theorem jH (n : Int) : (dK n).size ≤ 4 := by
 unfold dK
 split
 ·show (iE n).toArray.size ≤ 4
  simp [iE]
 decide
def nC (n : Int) (t : ByteArray) : ByteArray := if inB n 0 1000000000 = true ∧ ¬ t = ⟨#[]⟩ ∧ t.size + 8 ≤ 60000 then dK n ++ dK (fF t) ++ t else ⟨#[]⟩
theorem oQ {n : Int} {t : ByteArray} (h : ¬ (inB n 0 1000000000 = true ∧ ¬ t = ⟨#[]⟩ ∧ t.size + 8 ≤ 60000)) : (⟨#[]⟩ : ByteArray) = nC n t := by unfold nC; rw [if_neg h]
theorem pT {n : Int} {t : ByteArray} (h1 : inB n 0 1000000000 = true) (h2 : ¬ t = ⟨#[]⟩) (h3 : t.size + 8 ≤ 60000) : dK n ++ dK (fF t) ++ t = nC n t := by unfold nC; rw [if_pos ⟨h1, h2, h3⟩]
theorem SumOfD (t : ByteArray) (ht : t.size ≤ 1048576) : Ct1 prog 197 [.T t] [.I (fF t)] := ⟨fun w us _ hp => by
 match us, hp with
 | [_], ⟨rfl, _⟩ => exact (SumOfI w t ht).mono fun e w' h => ⟨(), [_], [], trivial, h.1, ⟨[], [], ⟨rfl, rfl⟩, rfl, rfl⟩, h.2⟩⟩
theorem SumOfSD (t : ByteArray) (ht : t.size ≤ 1048576) : Ct1 prog 216 [.T t] [.I (fF t)] := ⟨fun w us _ hp => by
 match us, hp with
 | [_], ⟨rfl, _⟩ => exact (SumOfS w t ht).mono fun e w' h => ⟨(), [_], [], trivial, h.1, ⟨[], [], ⟨rfl, rfl⟩, rfl, rfl⟩, h.2⟩⟩
theorem MarkTextI (n : Int) (y : Yard) (t : ByteArray) (hn : I64 n) (hy : Ct1 prog 195 [.S y] [.T t]) (ht : t.size ≤ 1000000000) : Ct1 prog 97 [.I n, .S y] [.T (nC n t)] :=
 .one (nC n t) (rk := fun a => [.T a]) <| vc func97 (fun hg => .c func195 hy (hg := ⟨hg.1.1, trivial⟩) fun _ => .c func92 (rS n 0 1000000000) fun _ => .v (inB n 0 1000000000)
  (fun hb => .rt ⟨#[]⟩ ⟨oQ (fun h => by rw [h.1] at hb; cases hb), trivial⟩)
  (fun hb => .s (t = ⟨#[]⟩)
   (fun h1 => .rt ⟨#[]⟩ ⟨oQ (fun h => h.2.1 h1), trivial⟩)
   (fun h1 => .p t.size 8 (h := by unfold I64; omega) <| .s ((60000 : Int) < (t.size : Int) + 8)
    (fun h2 => .rt ⟨#[]⟩ ⟨oQ (fun h => by omega), trivial⟩)
    (fun h2 => .c func196 (aD3 n) fun _ => .c func197 (SumOfD t aC) fun _ => .c func196 (aD3 (fF t)) fun _ =>
     .pb .add (aB3 (dK n) (dK (fF t)) <| by have := jH n; have := jH (fF t); omega) <|
     .pb .add (aB3 (dK n ++ dK (fF t)) t <| by have := jH n; have := jH (fF t); rw [ByteArray.size_append]; omega) <|
     .rt (dK n ++ dK (fF t) ++ t) ⟨pT hb h1 aC, trivial⟩)))) aD
theorem SixteenS (n : Int) : Ct1 prog 241 [.I n] [.B (inB n 0 1000000000)] :=
 .one (inB n 0 1000000000) (rk := fun a => [.B a]) <| vc func241 (fun hg => .c func138 (InV n 0 1000000000) fun _ => .rt (inB n 0 1000000000) ⟨rfl, trivial⟩) aD
theorem wQ {P : Program} {t : TypeId} {s : ByteArray} {a : Nat} (hu : P.underlying t = some .string) (h1 : a ≤ s.size) : LOk P t (.string s) (some (I a)) none (.string (s.extract a s.size)) := by
 intro n f W Q K d ty pos af g xo lo hi hx hl hh k
 cases lo with
 | none => cases hl
 | some lo =>
  cases hi with
  | some hi => cases hh
  | none =>
   simp only [Option.map_some, Option.some.injEq] at hl
   refine Stp.run (v := .string (s.extract a s.size)) ?_ k
   have := run_slice_string_l (P := P) (w := W) (t := t) (s := s) (ht := hu) .i64 a aC aC
   simp only [execOp, hx, hl, Sem.run_bind, Option.map_some, Option.map_none]
   rw [run_sliceAt_string (h := hu)]
   have e : Sem.run P (Instr.slice t (Value.string s) (some (I a)) none none) W = Result.ok (Value.string (s.extract a s.size)) W := by simpa using this
   rw [e]; rfl
def yard0 : Yard := ⟨0, 0, [], []⟩
theorem dC : yard0.ok := by
 have z : I64 0 := by unfold I64; omega
 exact ⟨z, z⟩
def rmI (ry : ByteArray → Yard × Bool) (yt : Yard → ByteArray) (s : ByteArray) : Yard × Int × Bool :=
 if (bX s 0).2 = true ∧ 8 ≤ s.size ∧ (ry (s.extract 8 s.size)).2 = true ∧ nC (bX s 0).1 (yt (ry (s.extract 8 s.size)).1) = s then ((ry (s.extract 8 s.size)).1, (bX s 0).1, true) else (yard0, 0, false)
theorem wG {ry : ByteArray → Yard × Bool} {yt : Yard → ByteArray} {s : ByteArray} (h : ¬ ((bX s 0).2 = true ∧ 8 ≤ s.size ∧ (ry (s.extract 8 s.size)).2 = true ∧ nC (bX s 0).1 (yt (ry (s.extract 8 s.size)).1) = s)) : (yard0, 0, false) = rmI ry yt s := by unfold rmI; rw [if_neg h]
theorem fourR_64 (s : ByteArray) (a : Nat) : I64 (bX s a).1 := by
 unfold bX
 split
 ·have := kU (s.data.toList.drop a) (Nat.le_refl 4)
  simp only
  unfold I64; omega
 simp only
 unfold I64; omega
theorem ReadMarkI (ry : ByteArray → Yard × Bool) (yt : Yard → ByteArray) (s : ByteArray) (hs : s.size ≤ 1048576) (hR : ∀ t : ByteArray, t.size ≤ 1048576 → Ct1 prog 201 [.T t] [.S (ry t).1, .B (ry t).2]) (hW : ∀ t : ByteArray, t.size ≤ 1048576 → (ry t).2 = true → (ry t).1.wt ≤ 1048576) (hY : ∀ y : Yard, y.wt ≤ 1048576 → Ct1 prog 195 [.S y] [.T (yt y)]) (hz : ∀ y, y.wt ≤ 1048576 → (yt y).size ≤ 1000000000) : Ct1 prog 103 [.T s] [.S (rmI ry yt s).1, .I (rmI ry yt s).2.1, .B (rmI ry yt s).2.2] :=
 .one (rmI ry yt s) (rk := fun a => [.S a.1, .I a.2.1, .B a.2.2]) <| vc func103 (fun hg => .c func200 (FourAtI s 0 hs aC) fun _ => .v (bX s 0).2
  (fun hb => .rt (yard0, 0, false) ⟨wG (fun h => by rw [h.1] at hb; cases hb), dC, trivial⟩)
  (fun hb => .s ((s.size : Int) < 8)
   (fun h1 => .rt (yard0, 0, false) ⟨wG (fun h => by omega), dC, trivial⟩)
   (fun h1 => .pl (wQ (t := 9) (s := s) (a := 8) underlying9 aC) <| .c func201 (hR (s.extract 8 s.size) (by rw [ByteArray.size_extract]; omega)) fun gd => .v (ry (s.extract 8 s.size)).2
    (fun h2 => .rt (yard0, 0, false) ⟨wG (fun h => by rw [h.2.2.1] at h2; cases h2), dC, trivial⟩)
    (fun h2 => let hw : (ry (s.extract 8 s.size)).1.wt ≤ 1048576 := hW _ (by rw [ByteArray.size_extract]; omega) h2
     .c func97 (MarkTextI (bX s 0).1 (ry (s.extract 8 s.size)).1 (yt (ry (s.extract 8 s.size)).1) (fourR_64 s 0) (hY _ hw) (hz _ hw)) (hg := ⟨gd.1.1, trivial⟩) fun _ => .u (nC (bX s 0).1 (yt (ry (s.extract 8 s.size)).1) = s)
     (fun h3 => .rt (yard0, 0, false) ⟨wG (fun h => h3 h.2.2.2), dC, trivial⟩)
     (fun h3 => .rt ((ry (s.extract 8 s.size)).1, (bX s 0).1, true) ⟨by unfold rmI; rw [if_pos ⟨hb, by omega, h2, h3⟩], gd.1.1, trivial⟩))))) aD
def rmS (ry : ByteArray → Yard × Bool) (s : ByteArray) : Yard × Int × Bool :=
 if (bX s 0).2 = true ∧ (bX s 4).2 = true ∧ inB (bX s 0).1 0 1000000000 = true ∧ s.size ≤ 60000 ∧ fF (s.extract 8 s.size) = (bX s 4).1 ∧ (ry (s.extract 8 s.size)).2 = true then ((ry (s.extract 8 s.size)).1, (bX s 0).1, true) else (yard0, 0, false)
theorem pO {ry : ByteArray → Yard × Bool} {s : ByteArray} (h : ¬ ((bX s 0).2 = true ∧ (bX s 4).2 = true ∧ inB (bX s 0).1 0 1000000000 = true ∧ s.size ≤ 60000 ∧ fF (s.extract 8 s.size) = (bX s 4).1 ∧ (ry (s.extract 8 s.size)).2 = true)) : (yard0, 0, false) = rmS ry s := by unfold rmS; rw [if_neg h]
theorem mO {s : ByteArray} {a : Nat} (h : (bX s a).2 = true) : a + 4 ≤ s.size := by
 unfold bX at h
 split at h
 ·assumption
 cases h
theorem ReadMarkS (ry : ByteArray → Yard × Bool) (s : ByteArray) (hs : s.size ≤ 1048576) (hR : ∀ t : ByteArray, t.size ≤ 1048576 → Ct1 prog 242 [.T t] [.S (ry t).1, .B (ry t).2]) : Ct1 prog 126 [.T s] [.S (rmS ry s).1, .I (rmS ry s).2.1, .B (rmS ry s).2.2] :=
 .one (rmS ry s) (rk := fun a => [.S a.1, .I a.2.1, .B a.2.2]) <| vc func126 (fun hg => .c func240 (aD4 s 0 hs aC) fun _ => .c func240 (aD4 s 4 hs aC) fun _ => .v (bX s 0).2
  (fun hb => .rt (yard0, 0, false) ⟨pO (fun h => by rw [h.1] at hb; cases hb), dC, trivial⟩)
  (fun hb => .v (bX s 4).2
   (fun h1 => .rt (yard0, 0, false) ⟨pO (fun h => by rw [h.2.1] at h1; cases h1), dC, trivial⟩)
   (fun h1 => .c func241 (SixteenS (bX s 0).1) fun _ => .v (inB (bX s 0).1 0 1000000000)
    (fun h2 => .rt (yard0, 0, false) ⟨pO (fun h => by rw [h.2.2.1] at h2; cases h2), dC, trivial⟩)
    (fun h2 => .s ((60000 : Int) < s.size)
     (fun h3 => .rt (yard0, 0, false) ⟨pO (fun h => by omega), dC, trivial⟩)
     (fun h3 => .pl (wQ (t := 9) (s := s) (a := 8) underlying9 (mO h1)) <| .c func216 (SumOfSD (s.extract 8 s.size) (by rw [ByteArray.size_extract]; omega)) fun _ => .u (fF (s.extract 8 s.size) = (bX s 4).1)
      (fun h4 => .rt (yard0, 0, false) ⟨pO (fun h => h4 h.2.2.2.2.1), dC, trivial⟩)
      (fun h4 => .pl (wQ (t := 9) (s := s) (a := 8) underlying9 (mO h1)) <| .c func242 (hR (s.extract 8 s.size) (by rw [ByteArray.size_extract]; omega)) fun gd => .v (ry (s.extract 8 s.size)).2
       (fun h5 => .rt (yard0, 0, false) ⟨pO (fun h => by rw [h.2.2.2.2.2] at h5; cases h5), dC, trivial⟩)
       (fun h5 => .rt ((ry (s.extract 8 s.size)).1, (bX s 0).1, true) ⟨by unfold rmS; rw [if_pos ⟨hb, h1, h2, by omega, h4, h5⟩], gd.1.1, trivial⟩))))))) aD
def fAt (fs : List File) (nm : ByteArray) : Int :=
 match fs.findIdx? (fun f => decide (f.name = nm)) with
 | some i => (i : Int)
 | none => -1
def FAJ (fs : List File) (nm : ByteArray) (k : Nat) : Prop := k ≤ fs.length ∧ ∀ j (h : j < fs.length), j < k → ¬ fs[j].name = nm
theorem fAt_hit {fs : List File} {nm : ByteArray} {k : Nat} {f : File} (h : FAJ fs nm k) (hf : fs[k]? = some f) (e : f.name = nm) : (k : Int) = fAt fs nm := by
 obtain ⟨hk, rfl⟩ := gsi_.1 hf
 have : fs.findIdx? (fun f => decide (f.name = nm)) = some k := by
  rw [findIdx?_eq_some_iff_getElem]
  refine ⟨hk, by simpa using e, fun j hj => ?_⟩
  have := h.2 j aC hj
  simpa using this
 unfold fAt
 rw [this]
theorem fAt_none {fs : List File} {nm : ByteArray} {k : Nat} (h : FAJ fs nm k) (hk : ¬ (k : Int) < fs.length) : (-1 : Int) = fAt fs nm := by
 have : fs.findIdx? (fun f => decide (f.name = nm)) = none := by
  rw [findIdx?_eq_none_iff]
  intro f hf
  obtain ⟨j, hj, rfl⟩ := getElem_of_mem hf
  have := h.2 j hj aC
  simpa using this
 unfold fAt
 rw [this]
theorem FAJ.next {fs : List File} {nm : ByteArray} {k : Nat} {f : File} (h : FAJ fs nm k) (hf : fs[k]? = some f) (e : ¬ f.name = nm) : FAJ fs nm (k + 1) := by
 obtain ⟨hk, rfl⟩ := gsi_.1 hf
 refine ⟨hk, fun j hj hlt => ?_⟩
 rcases Nat.lt_succ_iff_lt_or_eq.1 hlt with h3 | rfl
 ·exact h.2 j hj h3
 exact e
theorem aB9 {fs : List File} {nm : ByteArray} (h : ¬ fAt fs nm < 0) : ∃ k : Nat, fAt fs nm = (k : Int) ∧ k < fs.length := by
 unfold fAt at *
 cases hf : fs.findIdx? (fun f => decide (f.name = nm)) with
 | none => rw [hf] at h; simp at h
 | some k =>
  exact ⟨k, rfl, (findIdx?_eq_some_iff_getElem.1 hf).1⟩
theorem aD5 (d : Disk) (nm : ByteArray) (hl : d.files.length ≤ 1048576) : Ct1 prog 108 [.S d, .T nm] [.I (fAt d.files nm)] :=
 .one (fAt d.files nm) (rk := fun a => [.I a]) <| vc func108 (fun hg => .lp (Γ := Nat) (fun k => FAJ d.files nm k) (fun k => d.files.length - k) [1, 2] [1] [0] (fun k => [vI 5 k]) (fun _ => []) 0 ⟨Nat.zero_le _, fun _ _ h => by omega⟩ [] fun k hJ t =>
  .s ((k : Int) < d.files.length)
   (fun h => .x d.files k (h := by omega) fun f hf _ => .s (f.name = nm)
    (fun he => .rt k ⟨fAt_hit hJ hf he, trivial⟩)
    (fun he => .p k 1 (h := by unfold I64; omega) <| .n t (k + 1) [] (hJ.next hf he) aC))
   (fun h => .rt (-1) ⟨fAt_none hJ h, trivial⟩)) aD
def eJ (fs : List File) (nm : ByteArray) : ByteArray := if fAt fs nm < 0 then ⟨#[]⟩ else ((fs[(fAt fs nm).toNat]?).map (·.data)).getD ⟨#[]⟩
theorem ReadFileS (d : Disk) (nm : ByteArray) (hl : d.files.length ≤ 1048576) : Ct1 prog 110 [.S d, .T nm] [.T (eJ d.files nm)] :=
 .one (eJ d.files nm) (rk := fun a => [.T a]) <| vc func110 (fun hg => .c func108 (aD5 d nm hl) fun _ => .s (fAt d.files nm < 0)
  (fun h => .rt ⟨#[]⟩ ⟨by unfold eJ; rw [if_pos h], trivial⟩)
  (fun h => .ex (aB9 h) fun k hk => .ex (p := fun f => d.files[k]? = some f) ⟨_, getElem?_eq_getElem hk.2⟩ fun f hf => .ye hf (fAt d.files nm) (fun _ => .rt f.data ⟨by
   unfold eJ
   rw [if_neg h, hk.1, Int.toNat_natCast, hf]; rfl, trivial⟩) (he := hk.1))) aD
def eB : ByteArray := ⟨#[109, 97, 114, 107]⟩
def moR (y0 : Yard) (rm : ByteArray → Yard × Int × Bool) (d : Disk) : Yard × Int × Bool := if fAt d.files eB < 0 then (y0, 0, true) else rm (eJ d.files eB)
theorem MarkOfS (y0 : Yard) (rm : ByteArray → Yard × Int × Bool) (d : Disk) (hl : d.files.length ≤ 1048576) (hN : Ct1 prog 125 [] [.S y0]) (hR : Ct1 prog 126 [.T (eJ d.files eB)] [.S (rm (eJ d.files eB)).1, .I (rm (eJ d.files eB)).2.1, .B (rm (eJ d.files eB)).2.2]) : Ct1 prog 34 [.S d] [.S (moR y0 rm d).1, .I (moR y0 rm d).2.1, .B (moR y0 rm d).2.2] :=
 .one (moR y0 rm d) (rk := fun a => [.S a.1, .I a.2.1, .B a.2.2]) <| vc func34 (fun (hg : gin [Par.S d]) => .c func108 (aD5 d eB hl) (hg := ⟨hg.1.1, trivial⟩) fun _ => .s (fAt d.files eB < 0)
  (fun h => .c func125 hN (hg := trivial) fun gd => .rt (y0, 0, true) ⟨by unfold moR; rw [if_pos h], gd.1.1, trivial⟩)
  (fun h => .c func110 (ReadFileS d eB hl) (hg := ⟨hg.1.1, trivial⟩) fun _ => .c func126 hR (hg := trivial) fun gd => .rt (rm (eJ d.files eB)) ⟨by unfold moR; rw [if_neg h], gd.1.1, trivial⟩)) aD
theorem MarkOfI (y0 : Yard) (rm : ByteArray → Yard × Int × Bool) (d : Disk) (hA : Ct1 prog 94 [.S d, .T eB] [.I (fAt d.files eB)]) (hF : Ct1 prog 86 [.S d, .T eB] [.T (eJ d.files eB)]) (hN : Ct1 prog 102 [] [.S y0]) (hR : Ct1 prog 103 [.T (eJ d.files eB)] [.S (rm (eJ d.files eB)).1, .I (rm (eJ d.files eB)).2.1, .B (rm (eJ d.files eB)).2.2]) : Ct1 prog 25 [.S d] [.S (moR y0 rm d).1, .I (moR y0 rm d).2.1, .B (moR y0 rm d).2.2] :=
 .one (moR y0 rm d) (rk := fun a => [.S a.1, .I a.2.1, .B a.2.2]) <| vc func25 (fun (hg : gin [Par.S d]) => .c func94 hA (hg := ⟨hg.1.1, trivial⟩) fun _ => .s (fAt d.files eB < 0)
  (fun h => .c func102 hN (hg := trivial) fun gd => .rt (y0, 0, true) ⟨by unfold moR; rw [if_pos h], gd.1.1, trivial⟩)
  (fun h => .c func86 hF (hg := ⟨hg.1.1, trivial⟩) fun _ => .c func103 hR (hg := trivial) fun gd => .rt (rm (eJ d.files eB)) ⟨by unfold moR; rw [if_neg h], gd.1.1, trivial⟩)) aD
def gS {α : Type} (p : α → Bool) : List α → Option Nat
 | [] => none
 | x :: xs => if p x then some 0 else (gS p xs).map (· + 1)
theorem jT {α : Type} {p : α → Bool} : ∀ {xs : List α} {k : Nat} (hk : k < xs.length), (xs.take k).any p = false → p xs[k] = true → gS p xs = some k
 | x :: xs, 0, _, _, hp => by simp at hp; simp [gS, hp]
 | x :: xs, k + 1, hk, h, hp => by
  simp only [take_succ_cons, any_cons, Bool.or_eq_false_iff] at h
  rw [gS, h.1, if_neg (by simp), jT (xs := xs) (k := k) (by simpa using hk) h.2 (by simpa using hp)]
  rfl
theorem jU {α : Type} {p : α → Bool} : ∀ {xs : List α}, xs.any p = false → gS p xs = none
 | [], _ => rfl
 | x :: xs, h => by
  simp only [any_cons, Bool.or_eq_false_iff] at h
  rw [gS, h.1, if_neg (by simp), jU h.2]; rfl
theorem wP {α : Type} {p : α → Bool} : ∀ {xs : List α} {k : Nat}, gS p xs = some k → ∃ h : k < xs.length, p xs[k] = true
 | x :: xs, k, h => by
  unfold gS at h
  by_cases hx : p x = true
  ·rw [if_pos hx] at h; cases h; exact ⟨by simp, hx⟩
  ·rw [if_neg hx] at h
   cases hq : gS p xs with
   | none => rw [hq] at h; cases h
   | some j =>
    rw [hq] at h
    cases h
    obtain ⟨h1, h2⟩ := wP hq
    exact ⟨by simpa using h1, by simpa using h2⟩
def ixI : Option Nat → Int
 | some k => k
 | none => -1
theorem uA {α : Type} {p : α → Bool} {xs : List α} {k : Nat} (hk : k < xs.length) (h : (xs.take k).any p = false) (hx : p xs[k] = false) : (xs.take (k + 1)).any p = false := by
 rw [take_succ_eq_append_getElem hk, any_append, h]; simp [hx]
theorem aG9 {α : Type} [DecidableEq α] (y : α) (xs : List α) : decide (0 ≤ ixI (gS (fun x => eqB y x) xs)) = decide (y ∈ xs) := by
 rw [decide_eq_decide]
 cases h : gS (fun x => eqB y x) xs with
 | some k =>
  obtain ⟨hk, hp⟩ := wP h
  have e := eqB_iff.1 hp
  refine ⟨fun _ => ?_, fun _ => by simp [ixI]⟩
  rw [e]; exact getElem_mem hk
 | none =>
  refine ⟨fun h2 => by simp [ixI] at h2, fun hm => ?_⟩
  obtain ⟨k, hk, rfl⟩ := getElem_of_mem hm
  have : gS (fun x => eqB xs[k] x) xs ≠ none := by
   intro hn
   have key : ∀ (l : List α), gS (fun x => eqB xs[k] x) l = none → xs[k] ∉ l := by
    intro l
    induction l with
    | nil => simp
    | cons a l ih =>
     intro hl hm
     unfold gS at hl
     by_cases ha : eqB xs[k] a = true
     ·rw [if_pos ha] at hl; cases hl
     rw [if_neg ha] at hl
     rcases mem_cons.1 hm with e | hm
     ·exact ha (cD e)
     refine ih ?_ hm
     cases hq : gS (fun x => eqB xs[k] x) l with
     | none => rfl
     | some j => rw [hq] at hl; cases hl
   exact key xs hn (getElem_mem hk)
  exact absurd h this
def Way (es : List Edge) : Int → List Int → Prop
 | _, [] => True
 | a, v :: vs => (⟨a, v⟩ : Edge) ∈ es ∧ Way es v vs
def Rch (es : List Edge) (a b : Int) : Prop := ∃ vs, Way es a (vs ++ [b])
theorem Way.append {es : List Edge} : ∀ {vs ws : List Int} {a : Int}, Way es a (vs ++ ws) ↔ Way es a vs ∧ Way es ((a :: vs).getLast (by simp)) ws
 | [], ws, a => by simp [Way]
 | v :: vs, ws, a => by
  simp only [cons_append, Way]
  rw [Way.append (vs := vs)]
  simp [getLast_cons, and_assoc]
theorem vC (a : Int) (vs : List Int) (b : Int) : (a :: (vs ++ [b])).getLast (cons_ne_nil _ _) = b := by
 rw [getLast_cons (by simp)]; simp
theorem Rch.one {es : List Edge} {a b : Int} (h : (⟨a, b⟩ : Edge) ∈ es) : Rch es a b := ⟨[], h, trivial⟩
theorem Rch.cons {es : List Edge} {a b c : Int} (h : (⟨a, b⟩ : Edge) ∈ es) (k : Rch es b c) : Rch es a c := by
 obtain ⟨vs, hv⟩ := k
 exact ⟨b :: vs, h, hv⟩
theorem Rch.cases {es : List Edge} {a c : Int} (h : Rch es a c) : (⟨a, c⟩ : Edge) ∈ es ∨ ∃ b, (⟨a, b⟩ : Edge) ∈ es ∧ Rch es b c := by
 obtain ⟨vs, hv⟩ := h
 cases vs with
 | nil => exact .inl hv.1
 | cons b vs => exact .inr ⟨b, hv.1, vs, hv.2⟩
theorem Rch.snoc {es : List Edge} {a b c : Int} (h : Rch es a b) (k : (⟨b, c⟩ : Edge) ∈ es) : Rch es a c := by
 obtain ⟨vs, hv⟩ := h
 refine ⟨vs ++ [b], ?_⟩
 rw [Way.append]
 refine ⟨hv, ?_⟩
 rw [vC]
 exact ⟨k, trivial⟩

/-! ### A way that meets no task twice -/
theorem lR : ∀ (n : Nat) (l : List Int), l.Nodup → (∀ x ∈ l, 0 ≤ x ∧ x < n) → l.length ≤ n
 | 0, l, _, h => by
  cases l with
  | nil => simp
  | cons x l => have := h x (by simp); omega
 | n + 1, l, hn, h => by
  have h1 := lR n (l.erase (n : Int)) (hn.erase _) (fun x hx => by
   have hm := mem_of_mem_erase hx
   have hne : x ≠ (n : Int) := fun e => by
    subst e
    exact absurd hx hn.not_mem_erase
   have := h x hm
   omega)
  have h2 : l.length ≤ (l.erase (n : Int)).length + 1 := by
   rw [length_erase]
   split <;> omega
  omega
theorem vA : ∀ {l : List Int}, ¬ l.Nodup → ∃ x l1 l2 l3, l = l1 ++ x :: l2 ++ x :: l3
 | [], h => by simp at h
 | y :: l, h => by
  by_cases hm : y ∈ l
  ·obtain ⟨l2, l3, rfl⟩ := append_of_mem hm
   exact ⟨y, [], l2, l3, rfl⟩
  ·have : ¬ l.Nodup := fun hn => h (nodup_cons.2 ⟨hm, hn⟩)
   obtain ⟨x, l1, l2, l3, rfl⟩ := vA this
   exact ⟨x, y :: l1, l2, l3, rfl⟩
theorem Way.mem {es : List Edge} : ∀ {vs : List Int} {a x : Int}, Way es a vs → x ∈ vs → ∃ e ∈ es, e.to_ = x
 | v :: vs, a, x, h, hx => by
  rcases mem_cons.1 hx with rfl | hx
  ·exact ⟨_, h.1, rfl⟩
  ·exact Way.mem h.2 hx
theorem Rch.short {es : List Edge} {n : Nat} (hr : ∀ e ∈ es, 0 ≤ e.to_ ∧ e.to_ < n) {a b : Int} (h : Rch es a b) : ∃ vs, Way es a (vs ++ [b]) ∧ (vs ++ [b]).length ≤ n := by
 obtain ⟨vs, hv⟩ := h
 induction hk : vs.length using Nat.strongRecOn generalizing vs with
 | _ k ih =>
  subst hk
  by_cases hn : (vs ++ [b]).Nodup
  ·exact ⟨vs, hv, lR n _ hn (fun x hx => by obtain ⟨e, he, rfl⟩ := Way.mem hv hx; exact hr e he)⟩
  obtain ⟨x, l1, l2, l3, hl⟩ := vA hn
  have hv2 := hv
  rw [hl, Way.append] at hv2
  have hw := hv2.1
  rw [show l1 ++ x :: l2 = l1 ++ [x] ++ l2 by simp, Way.append] at hw
  have hnew : Way es a (l1 ++ [x] ++ l3) := by
   rw [Way.append]
   refine ⟨hw.1, ?_⟩
   have h3 := hv2.2
   rw [vC]
   have e1 : (a :: (l1 ++ x :: l2)).getLast (cons_ne_nil _ _) = (a :: (l1 ++ x :: l2)).getLast (cons_ne_nil _ _) := rfl
   exact h3.2
  -- the same end
  have hlast : ∃ ws, l1 ++ [x] ++ l3 = ws ++ [b] ∧ ws.length < vs.length := by
   have hlen := congrArg List.length hl
   simp only [length_append, length_cons, length_nil] at hlen
   by_cases h3 : l3 = []
   ·subst h3
    have e2 : x = b := by
     have := (append_inj' hl rfl).2
     simpa using this.symm
    subst e2
    exact ⟨l1, by simp, by omega⟩
   obtain ⟨m, y, rfl⟩ : ∃ m y, l3 = m ++ [y] := ⟨l3.dropLast, l3.getLast h3, (dropLast_concat_getLast h3).symm⟩
   have e2 : y = b := by
    have hl2 : vs ++ [b] = (l1 ++ x :: l2 ++ x :: m) ++ [y] := by rw [hl]; simp
    have := (append_inj' hl2 rfl).2
    simpa using this.symm
   subst e2
   refine ⟨l1 ++ [x] ++ m, by simp, ?_⟩
   simp at hlen ⊢
   omega
  obtain ⟨ws, he, hlt⟩ := hlast
  rw [he] at hnew
  exact ih ws.length hlt ws hnew rfl

/-! ### Sets of tasks as numbers, relaxed edge by edge -/
def jA (m : List Nat) (a : Int) (b : Int) : Bool := (m.getD a.toNat 0).testBit b.toNat
def fR (m : List Nat) (e : Edge) : List Nat := m.set e.from_.toNat (m.getD e.from_.toNat 0 ||| (1 <<< e.to_.toNat ||| m.getD e.to_.toNat 0))
def fP (es : List Edge) (m : List Nat) : List Nat := es.foldl fR m
def cG (es : List Edge) (m : List Nat) : Nat → List Nat
 | 0 => m
 | k + 1 => fP es (cG es m k)
def EdgesIn (n : Nat) (es : List Edge) : Prop := ∀ e ∈ es, (0 ≤ e.from_ ∧ e.from_ < n) ∧ (0 ≤ e.to_ ∧ e.to_ < n)
theorem kL (m : List Nat) (e : Edge) : (fR m e).length = m.length := by simp [fR]
theorem pQ : ∀ (es : List Edge) (m : List Nat), (fP es m).length = m.length
 | [], m => rfl
 | e :: es, m => by show (fP es (fR m e)).length = _; rw [pQ es, kL]
theorem gX (es : List Edge) (m : List Nat) : ∀ k, (cG es m k).length = m.length
 | 0 => rfl
 | k + 1 => by rw [cG, pQ, gX es m k]
theorem kZ {m : List Nat} {e : Edge} {a b : Int} (ha : 0 ≤ a ∧ a < m.length) (hb : 0 ≤ b) (he : 0 ≤ e.from_ ∧ 0 ≤ e.to_) : jA (fR m e) a b = (jA m a b || (decide (a = e.from_) && (decide (b = e.to_) || jA m e.to_ b))) := by
 unfold jA fR
 by_cases h : a = e.from_
 ·subst h
  have hl : e.from_.toNat < m.length := by omega
  rw [getD_eq_getElem?_getD, getElem?_set_self hl]
  simp only [Option.getD_some, decide_true, Bool.true_and, Nat.testBit_or]
  congr 1
  congr 1
  rw [Nat.one_shiftLeft, Nat.testBit_two_pow]
  by_cases h2 : b = e.to_
  ·subst h2; simp
  have : ¬ e.to_.toNat = b.toNat := by omega
  simp [h2, this]
 have hne : ¬ e.from_.toNat = a.toNat := by omega
 rw [getD_eq_getElem?_getD, getElem?_set_ne hne]
 simp [h, getD_eq_getElem?_getD]
theorem sO {n : Nat} : ∀ {es : List Edge} {m : List Nat} {a b : Int}, EdgesIn n es → m.length = n → (0 ≤ a ∧ a < n) → 0 ≤ b → jA m a b = true → jA (fP es m) a b = true
 | [], m, a, b, _, _, _, _, h => h
 | e :: es, m, a, b, hi, hl, ha, hb, h => by
  refine sO (es := es) (m := fR m e) (fun x hx => hi x (by simp [hx])) (by rw [kL, hl]) ha hb ?_
  have := hi e (by simp)
  rw [kZ aC hb aC, h]; rfl
theorem nJ {n : Nat} : ∀ {es : List Edge} {m : List Nat} {e : Edge} {b : Int}, EdgesIn n es → m.length = n → e ∈ es → 0 ≤ b → (b = e.to_ ∨ jA m e.to_ b = true) → jA (fP es m) e.from_ b = true
 | e0 :: es, m, e, b, hi, hl, he, hb, h => by
  have h0 := hi e0 (by simp)
  have hlen : (fR m e0).length = n := by rw [kL, hl]
  have hi' : EdgesIn n es := fun x hx => hi x (by simp [hx])
  rcases mem_cons.1 he with rfl | he
  ·refine sO (es := es) hi' hlen h0.1 hb ?_
   rw [kZ aC hb aC]
   rcases h with h | h
   ·simp [h]
   simp [h]
  refine nJ (es := es) (m := fR m e0) hi' hlen he hb ?_
  rcases h with h | h
  ·exact .inl h
  refine .inr ?_
  have h1 := hi e (by simp [he])
  rw [kZ aC hb aC, h]; rfl
theorem qK {n : Nat} {all : List Edge} : ∀ {es : List Edge} {m : List Nat}, EdgesIn n es → m.length = n → (∀ e ∈ es, e ∈ all) → (∀ a b : Int, 0 ≤ a → a < n → 0 ≤ b → jA m a b = true → Rch all a b) → ∀ a b : Int, 0 ≤ a → a < n → 0 ≤ b → jA (fP es m) a b = true → Rch all a b
 | [], m, _, _, _, h => h
 | e :: es, m, hi, hl, hs, h => by
  refine qK (es := es) (m := fR m e) (fun x hx => hi x (by simp [hx])) (by rw [kL, hl]) (fun x hx => hs x (by simp [hx])) ?_
  intro a b ha ha2 hb hbit
  have h0 := hi e (by simp)
  rw [kZ aC hb aC] at hbit
  simp only [Bool.or_eq_true, Bool.and_eq_true, decide_eq_true_eq] at hbit
  rcases hbit with hbit | ⟨rfl, hbit⟩
  ·exact h a b ha ha2 hb hbit
  ·have hem : (⟨e.from_, e.to_⟩ : Edge) ∈ all := hs e (by simp)
   rcases hbit with rfl | hbit
   ·exact .one hem
   ·exact .cons hem (h e.to_ b h0.2.1 h0.2.2 hb hbit)
theorem sQ {n : Nat} {es : List Edge} {m : List Nat} (hi : EdgesIn n es) (hl : m.length = n) : ∀ (k : Nat) {a b : Int} {vs : List Int}, Way es a (vs ++ [b]) → (vs ++ [b]).length ≤ k → jA (cG es m k) a b = true
 | 0, a, b, vs, _, h => by simp at h
 | k + 1, a, b, [], hw, h => by
  rw [cG]
  have hb := hi _ hw.1
  exact nJ (e := ⟨a, b⟩) hi (by rw [gX, hl]) hw.1 hb.2.1 (.inl rfl)
 | k + 1, a, b, v :: vs, hw, h => by
  rw [cG]
  have h1 := sQ hi hl k (vs := vs) hw.2 (by simpa using h)
  have hb : 0 ≤ b := by
   have : b ∈ vs ++ [b] := by simp
   obtain ⟨e, he, rfl⟩ := Way.mem hw.2 this
   exact (hi e he).2.1
  exact nJ (e := ⟨a, v⟩) hi (by rw [gX, hl]) hw.1 hb (.inr h1)
theorem waits_iff {n : Nat} {es : List Edge} (hi : EdgesIn n es) {a b : Int} (ha : 0 ≤ a ∧ a < n) (hb : 0 ≤ b) : jA (cG es (List.replicate n 0) n) a b = true ↔ Rch es a b := by
 constructor
 ·have key : ∀ k, ∀ a b : Int, 0 ≤ a → a < n → 0 ≤ b → jA (cG es (List.replicate n 0) k) a b = true → Rch es a b := by
   intro k
   induction k with
   | zero =>
    intro a b _ _ _ h
    simp only [cG, jA, getD_eq_getElem?_getD, getElem?_replicate] at h
    split at h <;> simp at h
   | succ k ih => exact qK hi (by rw [gX]; simp) (fun e he => he) ih
  exact key n a b ha.1 ha.2 hb
 intro h
 obtain ⟨vs, hv, hlen⟩ := h.short (n := n) (fun e he => (hi e he).2)
 exact sQ hi (by simp) n hv hlen
end Go.Proofs.YtanpcpoogkdlaaaGreat
