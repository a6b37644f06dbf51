/-
  One operation that only reads, of whatever kind. Theory alone.
  Operations that make memory, write, or call; a region's list; what goes out of use. Theory alone.
  Operations that make memory, write, or call. Theory alone.
  Appending to what is one's own. Theory alone.
  Appending a string's bytes to what is one's own. Theory alone.
  Calls that are handed a pointer to what is one's own; elements that are lent. Theory alone.
  Whole regions, whole bodies. Theory alone.
  A region that draws its order, some operations of which take what is the call's own, and make it: each is shown once, whatever else has come.
  A region that draws its order, read: what only reads may be done whenever; what makes memory, calls or writes has all else ahead of it or behind it. Theory alone.
  A region that draws its order, all orders of what writes being read one by one: for regions in which nothing bars the rest. Theory alone.
  Whole bodies; what a function is handed, and what it hands back. Theory alone.
  A function's contract, of what is told of its walk. Theory alone.
-/
import Derived.Lib.AppendStr
import Derived.Test.YtanpcpoogkdlaaaGreatQ01
import Derived.Test.YtanpcpoogkdlaaaGreatQ02
universe u
namespace Go.Proofs.YtanpcpoogkdlaaaGreat
set_option linter.unusedSimpArgs false
set_option linter.unusedVariables false
set_option maxHeartbeats 1000000
set_option maxHeartbeats 2000000
open Go.RowKit Go.Proofs.Tryz List

section
variable {P : Program} {A : Type} {R : A → Prop}
theorem pY {t : TypeId} {α : Type} [Shape α] (h : elK P t = some (Shape.size α)) : ∃ e, SlOk P t e α := by
 unfold elK at h
 split at h
 ·next e hu =>
  obtain ⟨j, hj, h⟩ := Option.bind_eq_some_iff.1 h
  simp only [Option.some.injEq] at h
  exact ⟨e, ⟨hu, by rw [hj, Option.map_some, h]⟩⟩
 cases h
def aN6 (P : Program) (t : Nat) : Bool :=
 match P.underlying t with
 | some .string => true
 | _ => false
theorem isStr_ok {t : Nat} (h : aN6 P t = true) : P.underlying t = some .string := by
 unfold aN6 at h
 split at h
 ·next hu => exact hu
 cases h
section
variable {n : Nat} {f : Nat → Value} {W : World} {Q : Exit → Act → World → Prop} {K : Value → World → Prop} {d : Option Tmp} {ty : TypeId} {pos : String} {af : Array Go.Edge} {g : Option (Nat × Bool)}
theorem uH {x : Operand} {t : TypeId} {ao : Option Addr} {N cap : Nat} (hb : aB0 P t = true) (hx : ev n f x = .slice ao N cap) (k : K (I (N : Int)) W) : Stp P n ⟨d, .call { callee := .builtin .len, args := #[x], argTypes := #[t] }, ty, pos, af, g⟩ f W Q K := by
 unfold aB0 at hb
 split at hb
 ·next te ht =>
  refine Stp.run (v := I N) ?_ k
  have he : P.elem t = te := by simp [Program.elem, ht]
  have hu2 : P.underlying t = some (.slice (P.elem t)) := by rw [he]; exact ht
  simp [execOp, hx, resolve, invoke, builtin, Sem.run_bind, run_len_slice (h := hu2), goInt]
 cases hb
theorem stp_fld {x : Operand} {t i : Nat} {u v : Value} (hx : ev n f x = u) (hb : (Instr.field t u i).run P W = .ok v W) (k : K v W) : Stp P n ⟨d, .field t x i, ty, pos, af, g⟩ f W Q K :=
 Stp.run (v := v) (by simp [execOp, hx, Sem.run_bind, hb]) k
theorem stp_bld {t : TypeId} {parts : List (Nat × Operand)} {vs : List (Nat × Value)} {v : Value} (hv : parts.map (fun (i, x) => (i, ev n f x)) = vs) (hb : (Instr.build t vs.toArray).run P W = .ok v W) (k : K v W) : Stp P n ⟨d, .build t parts.toArray, ty, pos, af, g⟩ f W Q K :=
 Stp.run (v := v) (by
  have e1 : parts.toArray.map (fun (i, x) => (i, ev n f x)) = vs.toArray := by rw [← hv]; simp
  simp only [execOp, Sem.run_bind, e1, hb]; rfl) k
end
def lnT (P : Program) (s : S) (t : TypeId) (c : Sc) (K : SV → Tr) : Tr :=
 match c with
 | .rf j h => opt (wN s j) fun q => .e0 h q.2.1 <| .e0 (aB0 P t) true (K (one (.vl (I (q.2.2.xs.length : Int)))))
 | .lt _ _ n => .e0 (aB0 P t) true (K (one (.vl (I (n : Int)))))
 | .vl (.slice _ n _) => .e0 (aB0 P t) true (K (one (.vl (I (n : Int)))))
 | .vl (.string a) => .e0 (aN6 P t) true (K (one (.vl (I (a.size : Int)))))
 | _ => .no
theorem lnT_ok {G : Prop} {lk : Operand → Option SV} {w0 W : World} {s : S} {x : Operand} {t : TypeId} {c : Sc} {K : SV → Tr} (hx : lk x = some (one c)) (h : (lnT P s t c K).holds) (st : St w0 W s.rs) (fa : Facts w0 W s.B)
  (k : ∀ v, (K v).holds → QS P lk (.call { callee := .builtin .len, args := #[x], argTypes := #[t] }) w0 W s.rs v → G) : G := by
 unfold lnT at h
 split at h
 ·next j hd =>
  refine aW h fun q hq h => ?_
  obtain ⟨l, hd', dd⟩ := q
  obtain ⟨h1, h2, h⟩ := h
  simp only at h1
  subst h1
  obtain ⟨fp, hs⟩ := kJ hq st fa
  obtain ⟨ao, cap, e, _⟩ := hs
  refine k _ h ?_
  intro n f W' Q KK d ty pos af g hl hst hb hk
  exact uH h2 ((hl _ _ hx).trans e) (hk W' hst (Below.refl _ _))
 ·refine k _ h.2 ?_
  intro n f W' Q KK d ty pos af g hl hst hb hk
  exact uH h.1 (hl _ _ hx) (hk W' hst (Below.refl _ _))
 ·refine k _ h.2 ?_
  intro n f W' Q KK d ty pos af g hl hst hb hk
  exact uH h.1 (hl _ _ hx) (hk W' hst (Below.refl _ _))
 ·refine k _ h.2 ?_
  intro n f W' Q KK d ty pos af g hl hst hb hk
  exact pS (isStr_ok h.1) (hl _ _ hx) (hk W' hst (Below.refl _ _))
 exact h.elim
/-! ### Structs -/
def offs (P : Program) (t i : Nat) : Option (Nat × Option Nat) :=
 match P.underlying t with
 | some (.struct fs) => (fs[i]?).bind fun fd => (ldK P fd.type).map fun z => (fd.offset, z)
 | _ => none
def fldU (P : Program) (t i : Nat) (cs : List Sc) : Option SV :=
 (offs P t i).bind fun q => match q.2 with
  | none => (cs[q.1]?).map one
  | some z => some (.on (.ag ((cs.drop q.1).take z)))
def tvC : SV → List Sc
 | .on (.ce c) => [c]
 | .on (.ag l) => l
 | .tu _ => []
def put0 : List Sc → Nat → List Sc → List Sc
 | cs, _, [] => cs
 | [], _, _ :: _ => []
 | _ :: cs, 0, v :: vs => v :: put0 cs 0 vs
 | c :: cs, o + 1, vs => c :: put0 cs o vs
def oL (P : Program) (t : Nat) : List Sc := (((P.info? t).bind (·.zero)).map (fun z => z.cells.toList.map Sc.vl)).getD []
def bldU (P : Program) (t : Nat) : List (Nat × SV) → List Sc → List Sc
 | [], cs => cs
 | (i, v) :: ps, cs => bldU P t ps (match offs P t i with
  | some q => put0 cs q.1 (tvC v)
  | none => cs)
def lkp (lk : Operand → Option SV) : List (Nat × Operand) → Option (List (Nat × SV))
 | [] => some []
 | (i, x) :: ps => (lk x).bind fun v => (lkp lk ps).bind fun vs => some ((i, v) :: vs)
theorem aD9 {lk : Operand → Option SV} {n : Nat} {f : Nat → Value} (hl : ∀ x u, lk x = some u → ev n f x = u.val) : ∀ {ps : List (Nat × Operand)} {vs : List (Nat × SV)}, lkp lk ps = some vs → ps.map (fun (i, x) => (i, ev n f x)) = vs.map fun p => (p.1, p.2.val)
 | [], vs, h => by simp only [lkp, Option.some.injEq] at h; subst h; rfl
 | (i, x) :: ps, vs, h => by
  simp only [lkp] at h
  obtain ⟨v, hv, h⟩ := Option.bind_eq_some_iff.1 h
  obtain ⟨us, hu, h⟩ := Option.bind_eq_some_iff.1 h
  simp only [Option.some.injEq] at h
  subst h
  rw [map_cons, map_cons, aD9 hl hu]
  simp only [hl x v hv]
def lkv (lk : Operand → Option SV) : List Operand → Option (List SV)
 | [] => some []
 | x :: xs => (lk x).bind fun v => (lkv lk xs).bind fun vs => some (v :: vs)
theorem sF {lk : Operand → Option SV} {n : Nat} {f : Nat → Value} (hl : ∀ x u, lk x = some u → ev n f x = u.val) : ∀ {xs : List Operand} {vs : List SV}, lkv lk xs = some vs → xs.map (ev n f) = vs.map SV.val
 | [], vs, h => by simp only [lkv, Option.some.injEq] at h; subst h; rfl
 | x :: xs, vs, h => by
  simp only [lkv] at h
  obtain ⟨v, hv, h⟩ := Option.bind_eq_some_iff.1 h
  obtain ⟨us, hu, h⟩ := Option.bind_eq_some_iff.1 h
  simp only [Option.some.injEq] at h
  subst h
  rw [map_cons, map_cons, hl x v hv, sF hl hu]
/-! ### Calls of plain results -/
def allv : List Rk → Option (List TV)
 | [] => some []
 | .v x :: ks => (allv ks).map fun l => .ce (sc x) :: l
 | _ :: _ => none
def svq (ks : List Rk) : Option SV :=
 (allv ks).map fun l => match l with
  | [t] => .on t
  | l => .tu l
theorem aJ6 : ∀ {ks : List Rk} {l : List TV}, allv ks = some l → gds ks ∧ ∀ {vs rs}, Rks vs ks rs → rs = [] ∧ vs = l.map TV.val
 | [], l, h => by
  simp only [allv, Option.some.injEq] at h
  subst h
  refine ⟨trivial, fun {vs rs} hr => ?_⟩
  cases vs with
  | nil => exact ⟨hr, rfl⟩
  | cons v vs => exact hr.elim
 | .v x :: ks, l, h => by
  simp only [allv, Option.map_eq_some_iff] at h
  obtain ⟨l', h', rfl⟩ := h
  obtain ⟨h1, h2⟩ := aJ6 h'
  refine ⟨h1, fun {vs rs} hr => ?_⟩
  cases vs with
  | nil => exact hr.elim
  | cons v vs =>
   obtain ⟨r1, r2, h3, h4, rfl⟩ := hr
   obtain ⟨rfl, rfl⟩ := h2 h4
   obtain ⟨rfl, rfl⟩ := h3
   exact ⟨rfl, by rw [map_cons, TV.val, jR]⟩
 | .own _ _ :: _, _, h => by cases h
 | .sl _ _ :: _, _, h => by cases h
theorem svq_ok {ks : List Rk} {v : SV} (h : svq ks = some v) : gds ks ∧ ∀ {vs rs}, Rks vs ks rs → rs = [] ∧ wO vs = v.val := by
 unfold svq at h
 simp only [Option.map_eq_some_iff] at h
 obtain ⟨l, h1, h2⟩ := h
 obtain ⟨h3, h4⟩ := aJ6 h1
 refine ⟨h3, fun {vs rs} hr => ?_⟩
 obtain ⟨rfl, rfl⟩ := h4 hr
 refine ⟨rfl, ?_⟩
 split at h2
 ·subst h2; rfl
 next hne =>
 subst h2
 clear h1 h4 hr
 match l, hne with
 | [], _ => rfl
 | [t], hne => exact absurd rfl (hne t)
 | _ :: _ :: _, _ => rfl
def clQ (s : S) (lk : Operand → Option SV) (F : FuncId) (xs : List Operand) (d : D P R) (K : SV → D P R → Tr) : Tr :=
 nrm d fun d => match d with
  | .cq (ps := ps) (rk := rk) (G := G) F' (fn := fn) _ _ _ k => .e0 F F' <| .e0 ((fn.name == "runtime.NumGoroutine") || fn.body.isNone) false <| opt (lkv lk xs) fun us => lA s us ps <| grT s G <| opt (svq rk) fun v => .fp (gds rk) fun hg => K v (k hg)
  | _ => .no
theorem clQ_ok {G : Prop} {lk : Operand → Option SV} {w0 W : World} {s : S} {F : FuncId} {xs : List Operand} {ats : Array TypeId} {d : D P R} {K : SV → D P R → Tr} (h : (clQ s lk F xs d K).holds) (st : St w0 W s.rs) (fa : Facts w0 W s.B)
  (k : ∀ v d', (K v d').holds → QS P lk (.call { callee := .value (.func F), args := xs.toArray, argTypes := ats }) w0 W s.rs v → G) : G := by
 unfold clQ at h
 refine dZ h fun d' h => ?_
 split at h
 ·next ps rk G0 F' fn hf hct hg kk =>
  obtain ⟨rfl, ho, h⟩ := h
  refine aW h fun us hus h => ?_
  obtain ⟨_, h'⟩ := kZ st fa h hg
  obtain ⟨hG, h'⟩ := aE1 h' st.below fa
  refine aW h' fun v hv h' => ?_
  obtain ⟨hgd, hvr⟩ := svq_ok hv
  refine k _ _ (h' hgd) ?_
  intro n f W' Q KK d ty pos af g hl hst hb hk
  obtain ⟨hp, _⟩ := kZ hst (fa.up hb) h hg
  refine iP hf ho (sF hl hus) ((hct.run W' _ (hG.up hb) hp).mono ?_)
  rintro e W'' ⟨_, vs, rs, _, rfl, hr, hst'⟩
  obtain ⟨rfl, e⟩ := hvr hr
  exact ⟨v.val, by rw [e], hk W'' (by simpa using hst.call hst') hst'.below⟩
 exact h.elim
/-! ### Parts of slices -/
theorem aL9 {α : Type} [Shape α] {w : World} {h : Hd} {xs : List α} {fp : List Nat} {a b : Nat} (hs : Sl w h.val xs fp) (h1 : a ≤ b) (h2 : b ≤ xs.length) : h.n = xs.length ∧ b ≤ h.cap ∧ ∃ g, Sl w (sliced h.ao a b h.cap (Shape.size α)) ((xs.take b).drop a) g ∧ ∀ c ∈ g, c ∈ fp := by
 obtain ⟨ao, cap, fp', e, hcap, hs', hf⟩ := hs.part a b h1 h2
 unfold Hd.val at e
 injection e with e1 e2 e3
 subst e1 e3
 exact ⟨e2, hcap, fp', hs', hf⟩
theorem aL8 {α : Type} [Shape α] {w : World} {h : Hd} {xs : List α} {fp : List Nat} {a : Nat} (hs : Sl w h.val xs fp) (h1 : a ≤ xs.length) : ∃ g, Sl w (sliced h.ao a h.n h.cap (Shape.size α)) (xs.drop a) g ∧ ∀ c ∈ g, c ∈ fp := by
 obtain ⟨e, hcap, g, hs', hf⟩ := aL9 hs h1 (Nat.le_refl _)
 rw [e]
 exact ⟨g, by simpa using hs', hf⟩
theorem stp_sl_l {α : Type} [Shape α] {P : Program} {n : Nat} {f : Nat → Value} {W : World} {Q : Exit → Act → World → Prop} {K : Value → World → Prop} {d : Option Tmp} {ty : TypeId} {pos : String} {af : Array Go.Edge} {gd : Option (Nat × Bool)} {t t' : TypeId} {x y : Operand} {h : Hd} {l : Nat} {e : Int} (hT : SlOk P t t' α) (hx : ev n f x = h.val) (hy : ev n f y = I e) (he : e = l) (hl : l ≤ h.n) (k : K (sliced h.ao l h.n h.cap (Shape.size α)) W) : Stp P n ⟨d, .slice t x (some y) none none, ty, pos, af, gd⟩ f W Q K := by
 subst he
 have hel : P.elem t = t' := by simp [Program.elem, hT.desc]
 have hu : P.underlying t = some (.slice (P.elem t)) := by rw [hel]; exact hT.desc
 refine Stp.run (v := sliced h.ao l h.n h.cap (Shape.size α)) ?_ k
 simp only [execOp, hx, hy, Sem.run_bind, Option.map_none, Option.map_some, Hd.val]
 rw [run_sliceAt_slice (h := hu), run_slice_l (ht := hu) (h0 := by omega) (h1 := by omega), hel, gM hT.size]
 simp
theorem stp_sl_lh {α : Type} [Shape α] {P : Program} {n : Nat} {f : Nat → Value} {W : World} {Q : Exit → Act → World → Prop} {K : Value → World → Prop} {d : Option Tmp} {ty : TypeId} {pos : String} {af : Array Go.Edge} {gd : Option (Nat × Bool)} {t t' : TypeId} {x y z : Operand} {h : Hd} {a b : Nat} {ea eb : Int} (hT : SlOk P t t' α) (hx : ev n f x = h.val) (hy : ev n f y = I ea) (hz : ev n f z = I eb) (he : ea = a) (he2 : eb = b) (h1 : a ≤ b) (h2 : b ≤ h.cap) (k : K (sliced h.ao a b h.cap (Shape.size α)) W) : Stp P n ⟨d, .slice t x (some y) (some z) none, ty, pos, af, gd⟩ f W Q K := by
 subst he he2
 have hel : P.elem t = t' := by simp [Program.elem, hT.desc]
 have hu : P.underlying t = some (.slice (P.elem t)) := by rw [hel]; exact hT.desc
 refine Stp.run (v := sliced h.ao a b h.cap (Shape.size α)) ?_ k
 simp only [execOp, hx, hy, hz, Sem.run_bind, Option.map_none, Option.map_some, Hd.val]
 rw [run_sliceAt_slice (h := hu), run_slice_lh (ht := hu) (h0 := by omega) (h1 := by omega) (h2 := by omega), hel, gM hT.size]
 simp
def tdT (P : Program) {A : Type} {R : A → Prop} (s : S) (t : TypeId) (c y z : Sc) (d : D P R) (K : SV → S → D P R → Tr) : Tr :=
 nrm d fun d => match c, d with
  | .rf j h, .td i xs a b _ ea eb _ _ k => opt (wN s j) fun q => .e0 h q.2.1 <| .e1 q.2.2 ⟨i, xs⟩ <| .e0 y.val (I ea) <| .e0 z.val (I eb) <| .e0 (elK P t) (some i.size) <|
    .fn fun g : Hd × List Nat => K (one (.rf s.nx g.1)) ⟨s.E, s.O, (s.nx, q.1, .sl i g.1 ((xs.take b).drop a) g.2) :: s.B, s.nx + 1⟩ k
  | _, _ => .no
theorem tdT_ok {G : Prop} {lk : Operand → Option SV} {w0 W : World} {s : S} {x y z : Operand} {t : TypeId} {cx cy cz : Sc} {d : D P R} {K : SV → S → D P R → Tr} (hx : lk x = some (one cx)) (hy : lk y = some (one cy)) (hz : lk z = some (one cz)) (h : (tdT P s t cx cy cz d K).holds) (st : St w0 W s.rs) (fa : Facts w0 W s.B)
  (k : ∀ v s' d', (K v s' d').holds → s'.E = s.E → s'.O = s.O → Facts w0 W s'.B → QS P lk (.slice t x (some y) (some z) none) w0 W s.rs v → G) : G := by
 unfold tdT at h
 refine dZ h fun d' h => ?_
 split at h
 ·next _ j hd α i xs a b hab ea eb hea heb kk _ =>
  refine aW h fun q hq h => ?_
  obtain ⟨l, hd', dd⟩ := q
  obtain ⟨h1, h2, h3, h3', h4, h⟩ := h
  simp only at h1 h2
  subst h1 h2
  obtain ⟨fp, hs⟩ := kJ hq st fa
  obtain ⟨_, hcap, g, hs', _⟩ := aL9 hs hab.1 hab.2
  obtain ⟨hd2, e2, _⟩ := hs'.hd
  obtain ⟨t2, hT⟩ := pY h4
  refine k _ _ _ (h (hd2, g)) rfl rfl ?_ ?_
  ·intro e he
   rcases mem_cons.1 he with rfl | he
   ·have hs3 := hs'
    rw [e2] at hs3
    exact hs3
   exact fa e he
  intro n f W' Q KK d ty pos af g hl hst hb hk
  refine stp_sl_lh hT (hl _ _ hx) ((hl _ _ hy).trans h3) ((hl _ _ hz).trans h3') hea heb hab.1 hcap ?_
  rw [e2]
  exact hk W' hst (Below.refl _ _)
 exact h.elim
def tkT (P : Program) {A : Type} {R : A → Prop} (s : S) (t : TypeId) (c y : Sc) (d : D P R) (K : SV → S → D P R → Tr) : Tr :=
 nrm d fun d => match c, d with
  | .rf j h, .tk i xs n _ e _ k => opt (wN s j) fun q => .e0 h q.2.1 <| .e1 q.2.2 ⟨i, xs⟩ <| .e0 y.val (I e) <| .e0 (elK P t) (some i.size) <|
    .fn fun g : Hd × List Nat => K (one (.rf s.nx g.1)) ⟨s.E, s.O, (s.nx, q.1, .sl i g.1 (xs.take n) g.2) :: s.B, s.nx + 1⟩ k
  | _, _ => .no
def dpT (P : Program) {A : Type} {R : A → Prop} (s : S) (t : TypeId) (c y : Sc) (d : D P R) (K : SV → S → D P R → Tr) : Tr :=
 nrm d fun d => match c, d with
  | .rf j h, .dp i xs n _ e _ k => opt (wN s j) fun q => .e0 h q.2.1 <| .e1 q.2.2 ⟨i, xs⟩ <| .e0 y.val (I e) <| .e0 (elK P t) (some i.size) <|
    .fn fun g : Hd × List Nat => K (one (.rf s.nx g.1)) ⟨s.E, s.O, (s.nx, q.1, .sl i g.1 (xs.drop n) g.2) :: (s.nx + 2000000, true, .dv g.1 h n i.size) :: s.B, s.nx + 1⟩ k
  | _, _ => .no
theorem tkT_ok {G : Prop} {lk : Operand → Option SV} {w0 W : World} {s : S} {x y : Operand} {t : TypeId} {cx cy : Sc} {d : D P R} {K : SV → S → D P R → Tr} (hx : lk x = some (one cx)) (hy : lk y = some (one cy)) (h : (tkT P s t cx cy d K).holds) (st : St w0 W s.rs) (fa : Facts w0 W s.B)
  (k : ∀ v s' d', (K v s' d').holds → s'.E = s.E → s'.O = s.O → Facts w0 W s'.B → QS P lk (.slice t x none (some y) none) w0 W s.rs v → G) : G := by
 unfold tkT at h
 refine dZ h fun d' h => ?_
 split at h
 ·next _ j hd α i xs m hm e he kk _ =>
  refine aW h fun q hq h => ?_
  obtain ⟨l, hd', dd⟩ := q
  obtain ⟨h1, h2, h3, h4, h⟩ := h
  simp only at h1 h2
  subst h1 h2
  obtain ⟨fp, hs⟩ := kJ hq st fa
  obtain ⟨u, g, hs', _, hstep⟩ := slq_h hs hm
  obtain ⟨hd2, rfl, _⟩ := hs'.hd
  obtain ⟨e2, hT⟩ := pY h4
  refine k _ _ _ (h (hd2, g)) rfl rfl ?_ ?_
  ·intro e he
   rcases mem_cons.1 he with rfl | he
   ·exact hs'
   exact fa e he
  intro n f W' Q KK d ty pos af g hl hst hb hk
  exact hstep hT (hl _ _ hx) ((hl _ _ hy).trans h3) he (hk W' hst (Below.refl _ _))
 exact h.elim
theorem dpT_ok {G : Prop} {lk : Operand → Option SV} {w0 W : World} {s : S} {x y : Operand} {t : TypeId} {cx cy : Sc} {d : D P R} {K : SV → S → D P R → Tr} (hx : lk x = some (one cx)) (hy : lk y = some (one cy)) (h : (dpT P s t cx cy d K).holds) (st : St w0 W s.rs) (fa : Facts w0 W s.B)
  (k : ∀ v s' d', (K v s' d').holds → s'.E = s.E → s'.O = s.O → Facts w0 W s'.B → QS P lk (.slice t x (some y) none none) w0 W s.rs v → G) : G := by
 unfold dpT at h
 refine dZ h fun d' h => ?_
 split at h
 ·next _ j hd α i xs m hm e he kk _ =>
  refine aW h fun q hq h => ?_
  obtain ⟨l, hd', dd⟩ := q
  obtain ⟨h1, h2, h3, h4, h⟩ := h
  simp only at h1 h2
  subst h1 h2
  obtain ⟨fp, hs⟩ := kJ hq st fa
  obtain ⟨hn, _⟩ := aL9 hs hm (Nat.le_refl _)
  obtain ⟨g, hs', _⟩ := aL8 hs hm
  obtain ⟨hd2, e2, _⟩ := hs'.hd
  obtain ⟨t2, hT⟩ := pY h4
  refine k _ _ _ (h (hd2, g)) rfl rfl ?_ ?_
  ·intro e he
   rcases mem_cons.1 he with rfl | he
   ·have hs3 := hs'
    rw [e2] at hs3
    exact hs3
   rcases mem_cons.1 he with rfl | he
   ·exact e2.symm
   exact fa e he
  intro n f W' Q KK d ty pos af g hl hst hb hk
  refine stp_sl_l hT (hl _ _ hx) ((hl _ _ hy).trans h3) he (by rw [hn]; exact hm) ?_
  rw [e2]
  exact hk W' hst (Below.refl _ _)
 exact h.elim
def lko (lk : Operand → Option SV) (o : Option Operand) : Option (Option SV) :=
 match o with
 | none => some none
 | some x => (lk x).map some
theorem aN2 {lk : Operand → Option SV} {n : Nat} {f : Nat → Value} (hl : ∀ x u, lk x = some u → ev n f x = u.val) {o : Option Operand} {v : Option SV} (h : lko lk o = some v) : o.map (ev n f) = v.map SV.val := by
 cases o with
 | none => simp only [lko, Option.some.injEq] at h; subst h; rfl
 | some x =>
  simp only [lko, Option.map_eq_some_iff] at h
  obtain ⟨u, hu, rfl⟩ := h
  simp [hl x u hu]
/-! ### All of them -/
def elT0 (P : Program) (t : Nat) : Nat :=
 match P.underlying t with
 | some (.slice e) => e
 | _ => 0
def isStrC : Sc → Bool
 | .vl (.string _) => true
 | _ => false
def slT4 (P : Program) {A : Type} {R : A → Prop} (lk : Operand → Option SV) (s : S) (t : TypeId) (x : Operand) (lo hi mx : Option Operand) (d : D P R) (K : SV → S → D P R → Tr) : Tr :=
 opt (lk x) fun v => asC v fun cx => match isStrC cx with
  | true => match mx with
   | none => opt (lko lk lo) fun l => opt (lko lk hi) fun h => nrm d fun d => match d with
    | .pl (t := a) (x := x) (lo := l') (hi := h') (z := z) _ k => .e0 t a <| .e0 cx.val x <| .e0 (l.map SV.val) l' <| .e0 (h.map SV.val) h' <| K (one (sc z)) s k
    | _ => .no
   | some _ => .no
  | false => match lo, hi, mx with
   | none, some y, none => opt (lk y) fun v => asC v fun cy => tkT P s t cx cy d K
   | some y, none, none => opt (lk y) fun v => asC v fun cy => dpT P s t cx cy d K
   | some y, some z, none => opt (lk y) fun v => asC v fun cy => opt (lk z) fun v => asC v fun cz => tdT P s t cx cy cz d K
   | _, _, _ => .no
theorem slT4_ok {G : Prop} {lk : Operand → Option SV} {w0 W : World} {s : S} {x : Operand} {lo hi mx : Option Operand} {t : TypeId} {d : D P R} {K : SV → S → D P R → Tr} (h : (slT4 P lk s t x lo hi mx d K).holds) (st : St w0 W s.rs) (fa : Facts w0 W s.B)
  (k : ∀ v s' d', (K v s' d').holds → s'.E = s.E → s'.O = s.O → Facts w0 W s'.B → QS P lk (.slice t x lo hi mx) w0 W s.rs v → G) : G := by
 unfold slT4 at h
 refine aW h fun v hv h1 => cX h1 fun cx hc h2 => ?_
 subst hc
 split at h2
 ·split at h2
  ·refine aW h2 fun l hl h3 => aW h3 fun u hu h4 => dZ h4 fun d' h5 => ?_
   split at h5
   ·next hL kk =>
    obtain ⟨rfl, e1, e2, e3, h6⟩ := h5
    refine k _ _ _ h6 rfl rfl fa ?_
    intro n f W' Q KK d ty pos af g hlk hst hb hk
    have hk2 := hk W' hst (Below.refl _ _)
    rw [show ∀ z : Value, (one (sc z)).val = z from fun z => jR z] at hk2
    exact hL ((hlk _ _ hv).trans e1) ((aN2 hlk hl).trans e2) ((aN2 hlk hu).trans e3) hk2
   exact h5.elim
  exact h2.elim
 split at h2
 ·refine aW h2 fun u hu h3 => cX h3 fun cy hy h4 => ?_
  subst hy
  exact tkT_ok hv hu h4 st fa k
 ·refine aW h2 fun u hu h3 => cX h3 fun cy hy h4 => ?_
  subst hy
  exact dpT_ok hv hu h4 st fa k
 ·refine aW h2 fun u hu h3 => cX h3 fun cy hy h4 => aW h4 fun u2 hu2 h5 => cX h5 fun cz hz h6 => ?_
  subst hy hz
  exact tdT_ok hv hu hu2 h6 st fa k
 exact h2.elim
def qop (P : Program) {A : Type} {R : A → Prop} (lk : Operand → Option SV) (s : S) (o : Op) (d : D P R) (K : SV → S → D P R → Tr) : Tr :=
 match o with
 | .move x => opt (lk x) fun v => K v s d
 | .assign x => opt (lk x) fun v => K v s d
 | .pick c a b => opt (lk c) fun vc => asC vc fun c => bl c d fun r d => opt (lk (cond r a b)) fun v => K v s d
 | .nilCheck x => opt (lk x) fun v => asC v fun c => match c with
  | .pt j b k o => K (one (.pt j b k o)) s d
  | _ => .no
 | .fieldAddr t x i => opt (lk x) fun v => asC v fun c => match c with
  | .pt j b k o => opt (fOff P t i) fun off => K (one (.pt j b k (o + off))) s d
  | _ => .no
 | .load t x => opt (lk x) fun v => asC v fun c => ldT P s t c fun v => K v s d
 | .indexAddr t x y => opt (lk x) fun v => asC v fun cx => opt (lk y) fun v => asC v fun cy => ixT P s t cx cy d K
 | .binOp b t x y _ => opt (lk x) fun vx => opt (lk y) fun vy => match vx, vy with
  | .on (.ce cx), .on (.ce cy) => nrm d fun d => match d with
   | .pb b' (x := x) (y := y) (z := z) _ k => .e0 b b' <| .e0 cx.val x <| .e0 cy.val y <| K (one (sc z)) s k
   | .pn t0 x r _ k => match b, y with
    | .neq, .const .nilIface => .e0 t t0 <| .e0 cx.val x <| K (one (.bo r)) s k
    | _, _ => .no
   | d => boT P b t cx cy d fun v d => K v s d
  | .on (.ag cs), .on (.ag ds) => nrm d fun d => match b, d with
   | .eql, .qe (cs := cs') (ds := ds') (t := t') (b := r) _ _ k => .e0 t t' <| .e0 (cs.map Sc.val) cs' <| .e0 (ds.map Sc.val) ds' <| K (one (.bo r)) s k
   | .neq, .qe (cs := cs') (ds := ds') (t := t') (b := r) _ _ k => .e0 t t' <| .e0 (cs.map Sc.val) cs' <| .e0 (ds.map Sc.val) ds' <| K (one (.bo (!r))) s k
   | _, _ => .no
  | _, _ => .no
 | .unOp .not _ x => opt (lk x) fun v => asC v fun c => match c with
  | .vl (.bool b) => K (one (.vl (.bool (!b)))) s d
  | .bo e => K (one (.bo (!e))) s d
  | _ => .no
 | .unOp u _ x => opt (lk x) fun v => asC v fun c => nrm d fun d => match d with
  | .pu u' (x := x) (z := z) _ k => .e0 u u' <| .e0 c.val x <| K (one (sc z)) s k
  | _ => .no
 | .convert t t' x => opt (lk x) fun v => asC v fun c => nrm d fun d => match d with
  | .pc (t := a) (t' := b) (x := x) (z := z) _ k => .e0 t a <| .e0 t' b <| .e0 c.val x <| K (one (sc z)) s k
  | .so bs k => match c with
   | .rf j h => opt (wN s j) fun q => .e0 h q.2.1 <| .e1 q.2.2 ⟨inferInstance, bs⟩ <| .e0 (P.underlying t) (some (.slice (elT0 P t))) <| .e0 (P.underlying (elT0 P t)) (some (.int .u8)) <| .e0 (P.underlying t') (some .string) <| K (one (.vl (.string ⟨bs.toArray⟩))) s k
   | _ => .no
  | _ => .no
 | .index t x y => opt (lk x) fun v => asC v fun cx => opt (lk y) fun v => asC v fun cy => nrm d fun d => match d with
  | .px (t := a) (x := x) (y := y) (z := z) _ k => .e0 t a <| .e0 cx.val x <| .e0 cy.val y <| K (one (sc z)) s k
  | _ => .no
 | .extract x i => opt (lk x) fun v => match v with
  | .tu l => opt (l[i]?) fun t => K (.on t) s d
  | _ => .no
 | .field t x i => opt (lk x) fun v => match v with
  | .on (.ag cs) => opt (fldU P t i cs) fun u => .e0 (fun W => (Instr.field t (.agg (cs.map Sc.val).toArray) i).run P W) (fun W => .ok u.val W) (K u s d)
  | _ => .no
 | .build t ps => opt (lkp lk ps.toList) fun vs => .e0 (fun W => (Instr.build t (vs.map fun p => (p.1, p.2.val)).toArray).run P W) (fun W => .ok (TV.ag (bldU P t vs (oL P t))).val W) (K (.on (.ag (bldU P t vs (oL P t)))) s d)
 | .slice t x lo hi mx => slT4 P lk s t x lo hi mx d K
 | .call ⟨.builtin .len, xs, ts⟩ => match xs.toList, ts.toList with
  | [x], [t] => opt (lk x) fun v => asC v fun c => lnT P s t c fun v => K v s d
  | _, _ => .no
 | .call ⟨.builtin .min, xs, ts⟩ => match xs.toList with
  | [x, y] => opt (lk x) fun v => asC v fun cx => opt (lk y) fun v => asC v fun cy => match cx, cy with
   | .vl (.int .i64 a), .vl (.int .i64 c) => K (one (.vl (I (min a c)))) s d
   | _, _ => .no
  | _ => .no
 | .call ⟨.builtin .max, xs, ts⟩ => match xs.toList with
  | [x, y] => opt (lk x) fun v => asC v fun cx => opt (lk y) fun v => asC v fun cy => match cx, cy with
   | .vl (.int .i64 a), .vl (.int .i64 c) => K (one (.vl (I (max a c)))) s d
   | _, _ => .no
  | _ => .no
 | .call ⟨.value (.func F), xs, _⟩ => clQ s lk F xs.toList d fun v d => K v s d
 | _ => .no
theorem rZ {G : Prop} {lk : Operand → Option SV} {w0 W : World} {s : S} {o : Op} {d : D P R} {K : SV → S → D P R → Tr} (h : (qop P lk s o d K).holds) (st : St w0 W s.rs) (fa : Facts w0 W s.B)
  (k : ∀ v s' d', (K v s' d').holds → s'.E = s.E → s'.O = s.O → Facts w0 W s'.B → QS P lk o w0 W s.rs v → G) : G := by
 unfold qop at h
 split at h
 ·refine aW h fun v hv h => k _ _ _ h rfl rfl fa ?_
  intro n f W' Q KK d ty pos af g hl hst hb hk
  exact aG (hl _ _ hv) (hk W' hst (Below.refl _ _))
 ·refine aW h fun v hv h => k _ _ _ h rfl rfl fa ?_
  intro n f W' Q KK d ty pos af g hl hst hb hk
  exact aF (hl _ _ hv) (hk W' hst (Below.refl _ _))
 ·refine aW h fun v hv h' => cX h' fun c hc h => aJ2 h fun r d' hr h => aW h fun u hu h => k _ _ _ h rfl rfl fa ?_
  subst hc
  intro n f W' Q KK d ty pos af g hl hst hb hk
  cases r with
  | true => exact oY ((hl _ _ hv).trans hr) (hl _ _ hu) (hk W' hst (Below.refl _ _))
  | false => exact hY ((hl _ _ hv).trans hr) (hl _ _ hu) (hk W' hst (Below.refl _ _))
 ·refine aW h fun v hv h' => cX h' fun c hc h => ?_
  subst hc
  split at h
  ·refine k _ _ _ h rfl rfl fa ?_
   intro n f W' Q KK d ty pos af g hl hst hb hk
   exact pT (hl _ _ hv) (hk W' hst (Below.refl _ _))
  exact h.elim
 ·refine aW h fun v hv h' => cX h' fun c hc h => ?_
  subst hc
  split at h
  ·refine aW h fun off ho h => k _ _ _ h rfl rfl fa ?_
   intro n f W' Q KK d ty pos af g hl hst hb hk
   refine aL (aI8 ho) (hl _ _ hv) ?_
   have := hk W' hst (Below.refl _ _)
   simp only [SV.val, TV.val, Sc.val, ← Nat.add_assoc] at this
   exact this
  exact h.elim
 ·refine aW h fun v hv h' => cX h' fun c hc h => ?_
  subst hc
  exact ldT_ok hv h fa fun v h q => k _ _ _ h rfl rfl fa q
 ·refine aW h fun v hv h' => cX h' fun c hc h => aW h fun v2 hv2 h'' => cX h'' fun c2 hc2 h => ?_
  subst hc hc2
  exact ixT_ok hv hv2 h st fa k
 ·refine aW h fun v hv h => aW h fun v2 hv2 h => ?_
  split at h
  ·refine dZ h fun d1 h1 => ?_
   split at h1
   ·obtain ⟨rfl, e1, e2, h6⟩ := h1
    refine k _ _ _ h6 rfl rfl fa ?_
    intro n f W' Q KK d ty pos af g hl hst hb hk
    refine (by assumption : BOk P _ _ _ _) ((hl _ _ hv).trans e1) ((hl _ _ hv2).trans e2) ?_
    have := hk W' hst (Below.refl _ _)
    rwa [show (one (sc _)).val = _ from jR _] at this
   ·next t0 x0 r0 hN kk =>
    split at h1
    ·obtain ⟨rfl, e1, h6⟩ := h1
     refine k _ _ _ h6 rfl rfl fa ?_
     intro n f W' Q KK d ty pos af g hl hst hb hk
     exact hN ((hl _ _ hv).trans e1) (hk W' hst (Below.refl _ _))
    exact h1.elim
   exact boT_ok hv hv2 h1 fun v d h q => k _ _ _ h rfl rfl fa q
  ·refine dZ h fun d' h => ?_
   split at h
   ·obtain ⟨rfl, rfl, rfl, h⟩ := h
    refine k _ _ _ h rfl rfl fa ?_
    intro n f W' Q KK d ty pos af g hl hst hb hk
    exact uJ (by assumption) (by assumption) (hl _ _ hv) (hl _ _ hv2) (hk W' hst (Below.refl _ _))
   ·obtain ⟨rfl, rfl, rfl, h⟩ := h
    refine k _ _ _ h rfl rfl fa ?_
    intro n f W' Q KK d ty pos af g hl hst hb hk
    exact stp_aneq (by assumption) (by assumption) (hl _ _ hv) (hl _ _ hv2) (hk W' hst (Below.refl _ _))
   exact h.elim
  exact h.elim
 ·refine aW h fun v hv h' => cX h' fun c hc h => ?_
  subst hc
  split at h
  ·refine k _ _ _ h rfl rfl fa ?_
   intro n f W' Q KK d ty pos af g hl hst hb hk
   exact yM (hl _ _ hv) (hk W' hst (Below.refl _ _))
  ·refine k _ _ _ h rfl rfl fa ?_
   intro n f W' Q KK d ty pos af g hl hst hb hk
   exact yM (hl _ _ hv) (hk W' hst (Below.refl _ _))
  exact h.elim
 ·refine aW h fun v hv h' => cX h' fun c hc h => dZ h fun d1 h1 => ?_
  subst hc
  split at h1
  ·obtain ⟨rfl, e1, h6⟩ := h1
   refine k _ _ _ h6 rfl rfl fa ?_
   intro n f W' Q KK d ty pos af g hl hst hb hk
   refine (by assumption : UOk P _ _ _) ((hl _ _ hv).trans e1) ?_
   have := hk W' hst (Below.refl _ _)
   rwa [show (one (sc _)).val = _ from jR _] at this
  exact h1.elim
 ·refine aW h fun v hv h' => cX h' fun c hc h => dZ h fun d1 h1 => ?_
  subst hc
  split at h1
  ·obtain ⟨rfl, rfl, e1, h6⟩ := h1
   refine k _ _ _ h6 rfl rfl fa ?_
   intro n f W' Q KK d ty pos af g hl hst hb hk
   refine (by assumption : COk P _ _ _ _) ((hl _ _ hv).trans e1) ?_
   have := hk W' hst (Below.refl _ _)
   rwa [show (one (sc _)).val = _ from jR _] at this
  ·split at h1
   ·refine aW h1 fun q hq h2 => ?_
    obtain ⟨l, hd', dd⟩ := q
    obtain ⟨e1, e2, e3, e4, e5, h6⟩ := h2
    simp only at e1 e2
    subst e1 e2
    refine k _ _ _ h6 rfl rfl fa ?_
    intro n f W' Q KK d ty pos af g hl hst hb hk
    obtain ⟨fp, hs⟩ := kJ hq hst (fa.up hb)
    cases l with
    | true => exact nT e3 e4 e5 (hl _ _ hv) (Sl.below hs hst.below) (Below.refl _ _) (hk W' hst (Below.refl _ _))
    | false => exact nT e3 e4 e5 (hl _ _ hv) hs (Below.refl _ _) (hk W' hst (Below.refl _ _))
   exact h1.elim
  exact h1.elim
 ·refine aW h fun v hv h' => cX h' fun c hc h => aW h fun v2 hv2 h'' => cX h'' fun c2 hc2 h => dZ h fun d1 h1 => ?_
  subst hc hc2
  split at h1
  ·obtain ⟨rfl, e1, e2, h6⟩ := h1
   refine k _ _ _ h6 rfl rfl fa ?_
   intro n f W' Q KK d ty pos af g hl hst hb hk
   refine (by assumption : XOk P _ _ _ _) ((hl _ _ hv).trans e1) ((hl _ _ hv2).trans e2) ?_
   have := hk W' hst (Below.refl _ _)
   rwa [show (one (sc _)).val = _ from jR _] at this
  exact h1.elim
 ·refine aW h fun v hv h => ?_
  split at h
  ·next l =>
   refine aW h fun t ht h => k _ _ _ h rfl rfl fa ?_
   intro n f W' Q KK d ty pos af g hl hst hb hk
   exact tA (hl _ _ hv) (v := t.val) (by simp [ht]) (hk W' hst (Below.refl _ _))
  exact h.elim
 ·refine aW h fun v hv h => ?_
  split at h
  ·refine aW h fun u hu h => k _ _ _ h.2 rfl rfl fa ?_
   intro n f W' Q KK d ty pos af g hl hst hb hk
   exact stp_fld (hl _ _ hv) (congrFun h.1 W') (hk W' hst (Below.refl _ _))
  exact h.elim
 ·next t ps =>
  refine aW h fun vs hvs h => k _ _ _ h.2 rfl rfl fa ?_
  intro n f W' Q KK d ty pos af g hl hst hb hk
  have := stp_bld (P := P) (t := t) (d := d) (ty := ty) (pos := pos) (af := af) (g := g) (Q := Q) (K := KK) (aD9 hl hvs) (congrFun h.1 W') (hk W' hst (Below.refl _ _))
  simpa using this
 ·exact slT4_ok h st fa k
 ·next xs ts =>
  split at h
  ·next x t e1 e2 =>
   have e1 : xs = #[x] := by rw [← Array.toArray_toList (xs := xs), e1]
   have e2 : ts = #[t] := by rw [← Array.toArray_toList (xs := ts), e2]
   subst e1 e2
   refine aW h fun v hv h' => cX h' fun c hc h => ?_
   subst hc
   exact lnT_ok hv h st fa fun v h q => k _ _ _ h rfl rfl fa q
  exact h.elim
 ·next xs ts =>
  split at h
  ·next x y e1 =>
   have e1 : xs = #[x, y] := by rw [← Array.toArray_toList (xs := xs), e1]
   subst e1
   refine aW h fun v hv h' => cX h' fun c hc h => aW h fun v2 hv2 h'' => cX h'' fun c2 hc2 h => ?_
   subst hc hc2
   split at h
   ·refine k _ _ _ h rfl rfl fa ?_
    intro n f W' Q KK d ty pos af g hl hst hb hk
    exact aG7 (hl _ _ hv) (hl _ _ hv2) (hk W' hst (Below.refl _ _))
   exact h.elim
  exact h.elim
 ·next xs ts =>
  split at h
  ·next x y e1 =>
   have e1 : xs = #[x, y] := by rw [← Array.toArray_toList (xs := xs), e1]
   subst e1
   refine aW h fun v hv h' => cX h' fun c hc h => aW h fun v2 hv2 h'' => cX h'' fun c2 hc2 h => ?_
   subst hc hc2
   split at h
   ·refine k _ _ _ h rfl rfl fa ?_
    intro n f W' Q KK d ty pos af g hl hst hb hk
    exact stp_max (hl _ _ hv) (hl _ _ hv2) (hk W' hst (Below.refl _ _))
   exact h.elim
  exact h.elim
 ·next F xs ts =>
  refine clQ_ok (ats := ts) h st fa fun v d h q => k _ _ _ h rfl rfl fa ?_
  intro n f W' Q KK d ty pos af g hl hst hb hk
  have := q (n := n) (f := f) (W' := W') (Q := Q) (KK := KK) (d := d) (ty := ty) (pos := pos) (af := af) (g := g) hl hst hb hk
  simpa using this
 exact h.elim
end
end Go.Proofs.YtanpcpoogkdlaaaGreat
namespace Go.Proofs.YtanpcpoogkdlaaaGreat
set_option linter.unusedSimpArgs false
set_option linter.unusedVariables false
set_option maxHeartbeats 1000000
set_option maxHeartbeats 2000000
open Go.RowKit Go.Proofs.Tryz List

/-! ### What is owned, by its number -/
def Or (O : List (Nat × Ob)) : List Res := O.map fun p => p.2.res
def dT : List (Nat × Ob) → Nat → List (Nat × Ob)
 | [], _ => []
 | (t, v) :: O, x => cond (Nat.beq x t) O ((t, v) :: dT O x)
theorem yE : ∀ {O : List (Nat × Ob)} {j : Nat} {o : Ob}, lku O j = some o → (o.res :: Or (dT O j)).Perm (Or O)
 | [], _, _, h => by cases h
 | (t, v) :: O, x, o, h => by
  unfold lku at h
  unfold dT
  cases hb : Nat.beq x t with
  | true => rw [hb] at h; simp only [cond_true, Option.some.injEq] at h; subst h; exact List.Perm.refl _
  | false =>
   rw [hb] at h
   exact (List.Perm.swap _ _ _).trans ((yE (O := O) h).cons _)
theorem St.take {w0 W : World} {O : List (Nat × Ob)} {j : Nat} {o : Ob} {rs : List Res} (h : St w0 W (Or O ++ rs)) (hj : lku O j = some o) : St w0 W (o.res :: (Or (dT O j) ++ rs)) :=
 h.perm ((yE hj).append_right rs)
theorem St.pc_cs {α : Type} (i : Dsh α) {w0 W : World} {cs : List Value} {x : α} {fp : List Nat} {rs : List Res} (h : St w0 W (Res.pc cs (i.lv x) fp :: rs)) (hg : i.good x) : St w0 W (@Res.cs α i.toShape cs x fp :: rs) :=
 h.trade1 rfl (fun h => ⟨i.inn hg h.1, h.2⟩)
theorem St.cs_pc {α : Type} (i : Dsh α) {w0 W : World} {cs : List Value} {x : α} {fp : List Nat} {rs : List Res} (h : St w0 W (@Res.cs α i.toShape cs x fp :: rs)) : St w0 W (Res.pc cs (i.lv x) fp :: rs) ∧ i.good x :=
 ⟨h.trade1 rfl (fun h => ⟨(i.out h.1).2, h.2⟩), (i.out (h.get 0 rfl).1).1⟩
theorem St.pc_nil {w0 W : World} {rs : List Res} (h : St w0 W rs) : St w0 W (Res.pc [] [] [] :: rs) :=
 h.trade (rs1 := []) (rs2 := [Res.pc [] [] []]) (show ([] : List Nat).Nodup from nodup_nil) (fun b hb => absurd (show b ∈ ([] : List Nat) from hb) (by simp)) (by intro r hr; simp at hr; subst hr; exact ⟨rfl, by simp⟩)
theorem St.pc_v {w0 W : World} {rs : List Res} {cs : List Value} {ls : List Lf} {fp : List Nat} {x : Value} (h : St w0 W (Res.pc cs ls fp :: rs)) : St w0 W (Res.pc (x :: cs) (.v x :: ls) fp :: rs) :=
 h.trade1 rfl (fun h => ⟨⟨rfl, h.1⟩, h.2⟩)
theorem St.pc_n {β : Type} {i : Shape β} {w0 W : World} {rs : List Res} {cs : List Value} {ls : List Lf} {fp : List Nat} (h : St w0 W (Res.pc cs ls fp :: rs)) : St w0 W (Res.pc (.slice none 0 0 :: cs) (.s β i [] :: ls) fp :: rs) :=
 h.trade1 rfl (fun h => ⟨⟨[], fp, nil_Sl, h.1, rfl⟩, h.2⟩)
theorem St.pc_s {β : Type} {i : Shape β} {w0 W : World} {rs : List Res} {cs : List Value} {ls : List Lf} {fp f1 : List Nat} {v : Value} {ys : List β} (h : St w0 W (Res.pc cs ls fp :: Res.own v ys f1 :: rs)) : St w0 W (Res.pc (v :: cs) (.s β i ys :: ls) (f1 ++ fp) :: rs) := by
 refine St.trade (rs1 := [Res.pc cs ls fp, Res.own v ys f1]) (rs2 := [Res.pc (v :: cs) (.s β i ys :: ls) (f1 ++ fp)]) h ?_ ?_ ?_
 ·have hn := h.nodup
  simp only [flatMap_cons] at hn
  rw [← append_assoc, nodup_append] at hn
  have h2 : (fp ++ f1).Nodup := hn.1
  simp only [flatMap_cons, flatMap_nil, append_nil]
  exact (perm_append_comm.nodup_iff).1 h2
 ·intro b hb
  simp only [flatMap_cons, flatMap_nil, append_nil, Res.pc, Res.own, mem_append] at hb ⊢
  exact hb.symm
 intro r hr
 simp only [mem_singleton] at hr
 subst hr
 have h1 := h.get 0 rfl
 have h2 := h.get 1 rfl
 refine ⟨⟨f1, fp, aR h2, h1.1, rfl⟩, fun b hb => ?_⟩
 rcases mem_append.1 hb with hb | hb
 ·exact h2.2 b hb
 exact h1.2 b hb
theorem St.s_pc {β : Type} {i : Shape β} {w0 W : World} {rs : List Res} {cs : List Value} {ls : List Lf} {fp : List Nat} {v : Value} {ys : List β} (h : St w0 W (Res.pc (v :: cs) (.s β i ys :: ls) fp :: rs)) : ∃ f1 f2, St w0 W (Res.pc cs ls f2 :: Res.own v ys f1 :: rs) := by
 obtain ⟨⟨f1, f2, h1, h2, rfl⟩, hw⟩ := h.get 0 rfl
 refine ⟨f1, f2, St.trade (rs1 := [Res.pc (v :: cs) (.s β i ys :: ls) (f1 ++ f2)]) (rs2 := [Res.pc cs ls f2, Res.own v ys f1]) h ?_ ?_ ?_⟩
 ·have hn := h.nodup
  simp only [flatMap_cons] at hn
  rw [nodup_append] at hn
  have h3 : (f1 ++ f2).Nodup := hn.1
  simp only [flatMap_cons, flatMap_nil, append_nil]
  exact (perm_append_comm.nodup_iff).1 h3
 ·intro b hb
  simp only [flatMap_cons, flatMap_nil, append_nil, Res.pc, Res.own, mem_append] at hb ⊢
  exact hb.symm
 intro r hr
 rcases mem_cons.1 hr with rfl | hr
 ·exact ⟨h2, fun b hb => hw b (mem_append_right _ hb)⟩
 simp only [mem_singleton] at hr
 subst hr
 exact ⟨h1.v, fun b hb => hw b (mem_append_left _ hb)⟩
theorem St.v_pc {w0 W : World} {rs : List Res} {cs : List Value} {ls : List Lf} {fp : List Nat} {v x : Value} (h : St w0 W (Res.pc (v :: cs) (.v x :: ls) fp :: rs)) : v = x ∧ St w0 W (Res.pc cs ls fp :: rs) :=
 ⟨(h.get 0 rfl).1.1, h.trade1 rfl (fun h => ⟨h.1.2, h.2⟩)⟩
theorem St.swap {w0 W : World} {a b : Res} {rs : List Res} (h : St w0 W (a :: b :: rs)) : St w0 W (b :: a :: rs) := h.perm (List.Perm.swap _ _ _)

section
variable {P : Program} {A : Type} {R : A → Prop}
def jN : List (Nat × Ob) → List Sc → List Lf → (List (Nat × Ob) → Tr) → Tr
 | O, [], [], K => K O
 | O, c :: cs, .v u :: ls, K => .e0 c.val u (jN O cs ls K)
 | O, c :: cs, .s _ i ys :: ls, K => match c with
  | .rf j h => match lku O j with
   | some (.own i' h' xs _) => .e0 h h' (.e1 (⟨i', xs⟩ : Dat) ⟨i, ys⟩ (jN (dT O j) cs ls K))
   | some (.row i' _ h' xs _) => .e0 h h' (.e1 (⟨i', xs⟩ : Dat) ⟨i, ys⟩ (jN (dT O j) cs ls K))
   | _ => .no
  | .vl (.slice none 0 0) => .e1 (⟨i, []⟩ : Dat) ⟨i, ys⟩ (jN O cs ls K)
  | _ => .no
 | _, _, _, _ => .no
theorem eN {G : Prop} {w0 W : World} : ∀ {cs : List Sc} {ls : List Lf} {O : List (Nat × Ob)} {K : List (Nat × Ob) → Tr} {rs : List Res}, (jN O cs ls K).holds → St w0 W (Or O ++ rs) →
  (∀ O' fp, (K O').holds → St w0 W (Res.pc (cs.map Sc.val) ls fp :: (Or O' ++ rs)) → G) → G
 | [], [], O, K, rs, h, st, k => k O [] h st.pc_nil
 | c :: cs, .v u :: ls, O, K, rs, h, st, k => by
  obtain ⟨rfl, h⟩ := h
  exact eN h st fun O' fp h' st' => k O' fp h' st'.pc_v
 | c :: cs, .s β i ys :: ls, O, K, rs, h, st, k => by
  unfold jN at h
  split at h
  ·next j hd =>
   split at h
   ·next i' h' xs fp hj =>
    obtain ⟨rfl, h2, h⟩ := h
    simp only [Dat.mk.injEq] at h2
    obtain ⟨rfl, h2, h3⟩ := h2
    obtain ⟨rfl, rfl⟩ := And.intro (eq_of_heq h2) (eq_of_heq h3)
    have st2 : St w0 W (Or (dT O j) ++ (Res.own hd.val xs fp :: rs)) := (st.take hj).perm perm_middle
    refine eN h st2 fun O' fp' h' st' => k O' _ h' (St.pc_s (f1 := fp) (fp := fp') (st'.perm ?_))
    exact (perm_middle.symm).cons _
   ·next i' te h' xs fe hj =>
    obtain ⟨rfl, h2, h⟩ := h
    simp only [Dat.mk.injEq] at h2
    obtain ⟨rfl, h2, h3⟩ := h2
    obtain ⟨rfl, rfl⟩ := And.intro (eq_of_heq h2) (eq_of_heq h3)
    obtain ⟨fp, st1⟩ := St.shut (st.take hj)
    have st2 : St w0 W (Or (dT O j) ++ (Res.own hd.val xs fp :: rs)) := st1.perm perm_middle
    refine eN h st2 fun O' fp' h' st' => k O' _ h' (St.pc_s (f1 := fp) (fp := fp') (st'.perm ?_))
    exact (perm_middle.symm).cons _
   ·exact h.elim
  ·obtain ⟨h2, h⟩ := h
   simp only [Dat.mk.injEq, heq_eq_eq, true_and] at h2
   subst h2
   exact eN h st fun O' fp h' st' => k O' fp h' st'.pc_n
  ·exact h.elim
 | [], .v _ :: _, _, _, _, h, _, _ => h.elim
 | [], .s _ _ _ :: _, _, _, _, h, _, _ => h.elim
 | _ :: _, [], _, _, _, h, _, _ => h.elim
def xU : List Lf → S → (List Sc → S → Tr) → Tr
 | [], s, K => K [] s
 | .v x :: ls, s, K => xU ls s fun cs s => K (sc x :: cs) s
 | .s _ i ys :: ls, s, K => .fn fun g : Hd × List Nat => xU ls ⟨s.E, (s.nx, .own i g.1 ys g.2) :: s.O, s.B, s.nx + 1⟩ fun cs s' => K (.rf s.nx g.1 :: cs) s'
theorem nD {G : Prop} {w0 W : World} {rs : List Res} : ∀ {ls : List Lf} {s : S} {K : List Sc → S → Tr} {cs : List Value} {fp : List Nat}, (xU ls s K).holds → St w0 W (Res.pc cs ls fp :: (rs ++ s.rs)) →
  (∀ scs s', (K scs s').holds → scs.map Sc.val = cs → s'.E = s.E → s'.B = s.B → (∃ N, s'.O = N ++ s.O) → St w0 W (rs ++ s'.rs) → lns ls → G) → G
 | [], s, K, [], fp, h, st, k => k [] s h rfl rfl rfl ⟨[], rfl⟩ st.d0 trivial
 | [], s, K, c :: cs, fp, h, st, k => (st.get 0 rfl).1.elim
 | .v x :: ls, s, K, [], fp, h, st, k => (st.get 0 rfl).1.elim
 | .s _ _ _ :: ls, s, K, [], fp, h, st, k => (st.get 0 rfl).1.elim
 | .v x :: ls, s, K, c :: cs, fp, h, st, k => by
  obtain ⟨e0, st2⟩ := st.v_pc
  subst e0
  refine nD (K := fun cs s => K (sc c :: cs) s) h st2 fun scs s' h' e1 e2 e3 e4 st' hl => k _ s' h' ?_ e2 e3 e4 st' hl
  rw [map_cons, jR, e1]
 | .s _ i ys :: ls, s, K, c :: cs, fp, h, st, k => by
  obtain ⟨f1, f2, st⟩ := st.s_pc
  have hs := aR (st.get 1 rfl)
  obtain ⟨hd, rfl, hn⟩ := hs.hd
  refine nD (K := fun cs s' => K (.rf s.nx hd :: cs) s') (h (hd, f1)) (rs := rs) (st.perm ((perm_middle (a := Res.own hd.val ys f1) (l₁ := rs) (l₂ := s.rs)).cons _)) fun scs s' h' e1 e2 e3 e4 st' hl => k _ s' h' ?_ e2 e3 (e4.elim fun N hN => ⟨N ++ [(s.nx, .own i hd ys f1)], by rw [hN]; simp⟩) st' ⟨?_, hl⟩
  ·rw [map_cons, e1]; rfl
  ·exact hs.len_le
end
end Go.Proofs.YtanpcpoogkdlaaaGreat
namespace Go.Proofs.YtanpcpoogkdlaaaGreat
set_option linter.unusedSimpArgs false
set_option linter.unusedVariables false
set_option maxHeartbeats 1000000
set_option maxHeartbeats 2000000
open Go.RowKit Go.Proofs.Tryz List

section
variable {P : Program} {A : Type} {R : A → Prop}
def wP {α : Type u} : List α → Nat → List α → List α
 | C, 0, [] => C
 | _ :: C, 0, v :: vs => v :: wP C 0 vs
 | c :: C, n + 1, vs => c :: wP C n vs
 | [], _, _ => []
theorem qF : ∀ (C : List Sc) (o : Nat) (vs : List Sc), (wP C o vs).map Sc.val = cA (C.map Sc.val) o (vs.map Sc.val)
 | C, 0, [] => by cases C <;> rfl
 | _ :: C, 0, v :: vs => by
  show v.val :: (wP C 0 vs).map Sc.val = v.val :: cA (C.map Sc.val) 0 (vs.map Sc.val)
  rw [qF C 0 vs]
 | c :: C, n + 1, vs => by
  show c.val :: (wP C n vs).map Sc.val = c.val :: cA (C.map Sc.val) n (vs.map Sc.val)
  rw [qF C n vs]
 | [], 0, v :: vs => rfl
 | [], n + 1, vs => rfl
theorem wC {w0 W : World} {b : Nat} {zs : List Sc} {t : TypeId} {rs : List Res} (h : St w0 W (Res.bx b (zs.map Sc.val) t :: rs)) : St w0 W ((Ob.bx b [] zs [] t).res :: rs) := by
 simpa [Ob.res] using h
def newB (s : S) (zs : List Sc) (t : TypeId) (b : Nat) : S := ⟨s.E, (s.nx, .bx b [] zs [] t) :: s.O, s.B, s.nx + 1⟩
def alT (P : Program) (s : S) (t : TypeId) (K : SV → S → Tr) : Tr :=
 .e0 (((P.info? t).bind (·.zero)).map (·.cells.toList)) (some ((oL P t).map Sc.val)) (.fn fun b : Nat => K (one (.pt s.nx b 0 0)) (newB s (oL P t) t b))
theorem alT_ok {w0 W : World} {s : S} {t : TypeId} {K : SV → S → Tr} {n : Nat} {f : Nat → Value} {Q : Exit → Act → World → Prop} {KK : Value → World → Prop} {d : Option Tmp} {ty : TypeId} {pos : String} {af : Array Go.Edge} {g : Option (Nat × Bool)}
  (h : (alT P s t K).holds) (st : St w0 W s.rs) (fa : Facts w0 W s.B) (k : ∀ v s' W', (K v s').holds → s'.E = s.E → (∃ N, s'.O = N ++ s.O) → Below W.heap.size W W' → St w0 W' s'.rs → Facts w0 W' s'.B → KK v.val W') : Stp P n ⟨d, .alloc t, ty, pos, af, g⟩ f W Q KK := by
 obtain ⟨h1, h⟩ := h
 exact aT h1 st fun b W' hb st' => k _ _ W' (h b) rfl ⟨[_], rfl⟩ hb (wC st') (fa.up hb)
def bxT (s : S) (t : TypeId) (v : SV) (K : SV → S → Tr) : Tr :=
 match v with
 | .on (.ce c) => .e0 c.val.cells #[c.val] (.fn fun b : Nat => K (one (.pt s.nx b 0 0)) (newB s [c] t b))
 | .on (.ag l) => .fn fun b : Nat => K (one (.pt s.nx b 0 0)) (newB s l t b)
 | _ => .no
theorem bxT_ok {w0 W : World} {s : S} {t : TypeId} {x : Operand} {v : SV} {K : SV → S → Tr} {n : Nat} {f : Nat → Value} {Q : Exit → Act → World → Prop} {KK : Value → World → Prop} {d : Option Tmp} {ty : TypeId} {pos : String} {af : Array Go.Edge} {g : Option (Nat × Bool)}
  (hx : ev n f x = v.val) (h : (bxT s t v K).holds) (st : St w0 W s.rs) (fa : Facts w0 W s.B) (k : ∀ v s' W', (K v s').holds → s'.E = s.E → (∃ N, s'.O = N ++ s.O) → Below W.heap.size W W' → St w0 W' s'.rs → Facts w0 W' s'.B → KK v.val W') : Stp P n ⟨d, .box t x, ty, pos, af, g⟩ f W Q KK := by
 unfold bxT at h
 split at h
 ·obtain ⟨h1, h⟩ := h
  exact mX hx h1 st fun b W' hb st' => k _ _ W' (h b) rfl ⟨[_], rfl⟩ hb (wC st') (fa.up hb)
 ·exact aH hx st fun b W' hb st' => k _ _ W' (h b) rfl ⟨[_], rfl⟩ hb (wC st') (fa.up hb)
 exact h.elim
def bsU (k : Nat) : List (Nat × SV) → List Sc → List Sc
 | [], cs => cs
 | (i, v) :: ps, cs => bsU k ps (wP cs (i * k) (tvC v))
def reps {α : Type u} (l : List α) : Nat → List α
 | 0 => []
 | n + 1 => l ++ reps l n
def elT (P : Program) (t : Nat) : Nat :=
 match P.underlying t with
 | some (.slice e) => e
 | _ => 0
def bsT (P : Program) {A : Type} {R : A → Prop} (s : S) (t : TypeId) (len : Nat) (vs : List (Nat × SV)) (d : D P R) (K : SV → S → D P R → Tr) : Tr :=
 let cs := bsU (oL P (elT P t)).length vs (reps (oL P (elT P t)) len)
 .e0 (fun W => (Instr.buildSlice t len (vs.map fun p => (p.1, p.2.val)).toArray).run P W) (fun W => .ok (.slice (some ⟨W.heap.size, 0, none⟩) len len) (W.alloc (.cells (cs.map Sc.val).toArray (elT P t)))) <|
  match len with
  | 0 => nrm d fun d => match d with
   | .em i k => .e0 (cs.map Sc.val) [] <| .fn fun b : Nat => K (one (.rf s.nx ⟨some ⟨b, 0, none⟩, 0, 0⟩)) ⟨s.E, (s.nx, .row i (elT P t) ⟨some ⟨b, 0, none⟩, 0, 0⟩ [] []) :: s.O, s.B, s.nx + 1⟩ k
   | _ => .no
  | n + 1 => .fn fun b : Nat => K (one (.lt s.nx b (n + 1))) (newB s cs (elT P t) b) d
theorem bsT_ok {w0 W : World} {s : S} {t : TypeId} {len : Nat} {ps : List (Nat × Operand)} {vs : List (Nat × SV)} {dd : D P R} {K : SV → S → D P R → Tr} {n : Nat} {f : Nat → Value} {Q : Exit → Act → World → Prop} {KK : Value → World → Prop} {d : Option Tmp} {ty : TypeId} {pos : String} {af : Array Go.Edge} {g : Option (Nat × Bool)}
  (hx : ps.map (fun (i, x) => (i, ev n f x)) = vs.map fun p => (p.1, p.2.val)) (h : (bsT P s t len vs dd K).holds) (st : St w0 W s.rs) (fa : Facts w0 W s.B) (k : ∀ v s' d' W', (K v s' d').holds → s'.E = s.E → (∃ N, s'.O = N ++ s.O) → Below W.heap.size W W' → St w0 W' s'.rs → Facts w0 W' s'.B → KK v.val W') : Stp P n ⟨d, .buildSlice t len ps.toArray, ty, pos, af, g⟩ f W Q KK := by
 obtain ⟨h1, h⟩ := h
 cases len with
 | zero =>
  refine dZ h fun d' h => ?_
  split at h
  ·next i kk =>
   obtain ⟨h2, h⟩ := h
   refine aZ hx (congrFun h1 W) st fun b W' hb st' => k _ _ _ W' (h b) rfl ⟨[_], rfl⟩ hb ?_ (fa.up hb)
   rw [h2] at st'
   exact st'.row_empty
  exact h.elim
 | succ m => exact aZ hx (congrFun h1 W) st fun b W' hb st' => k _ _ _ W' (h b) rfl ⟨[_], rfl⟩ hb (wC st') (fa.up hb)
def mkT (P : Program) (s : S) (t : TypeId) (c cy : Sc) (K : SV → S → Tr) : Tr :=
 match c with
 | .vl (.int .i64 (.ofNat m)) => .e0 cy.val c.val <| .e0 (P.underlying t) (some (.slice (elT P t))) <|
   opt ((P.info? (elT P t)).bind fun i => i.zero.map fun z => (i.size, i.bytes, z.cells)) fun q => .e0 (Nat.ble m 67108864) true <| .e0 (Nat.ble (m * q.2.1) 140737488355328) true <| .e0 (madeCells q.2.2 (m * q.1)).toList ((reps (oL P (elT P t)) m).map Sc.val) <|
   .fn fun b : Nat => K (one (.lt s.nx b m)) (newB s (reps (oL P (elT P t)) m) (elT P t) b)
 | _ => .no
theorem mkT_ok {w0 W : World} {s : S} {t : TypeId} {x y : Operand} {c cy : Sc} {K : SV → S → Tr} {n : Nat} {f : Nat → Value} {Q : Exit → Act → World → Prop} {KK : Value → World → Prop} {d : Option Tmp} {ty : TypeId} {pos : String} {af : Array Go.Edge} {g : Option (Nat × Bool)}
  (hx : ev n f x = c.val) (hy : ev n f y = cy.val) (h : (mkT P s t c cy K).holds) (st : St w0 W s.rs) (fa : Facts w0 W s.B) (k : ∀ v s' W', (K v s').holds → s'.E = s.E → (∃ N, s'.O = N ++ s.O) → Below W.heap.size W W' → St w0 W' s'.rs → Facts w0 W' s'.B → KK v.val W') : Stp P n ⟨d, .makeSlice t x y, ty, pos, af, g⟩ f W Q KK := by
 unfold mkT at h
 split at h
 ·next m =>
  obtain ⟨h1, h2, h⟩ := h
  refine aW h fun q hq h => ?_
  obtain ⟨h3, h4, h5, h⟩ := h
  obtain ⟨i, hi, hq⟩ := Option.bind_eq_some_iff.1 hq
  obtain ⟨z, hz, rfl⟩ := Option.map_eq_some_iff.1 hq
  have h3 := Nat.le_of_ble_eq_true h3
  have h4 := Nat.le_of_ble_eq_true h4
  have hb' : (m : Int) * (i.bytes : Int) ≤ 140737488355328 := by have := Int.ofNat_le.2 h4; rw [Int.natCast_mul] at this; exact this
  have hmk := run_make (P := P) W t (elT P t) i z h2 hi hz .i64 .i64 m m aC aC (by rw [Int.mul_comm]; omega) aC
  rw [Int.toNat_natCast] at hmk
  have hx' : ev n f x = .int .i64 (m : Int) := hx
  have hy' : ev n f y = .int .i64 (m : Int) := hy.trans h1
  refine Stp.run (v := .slice (some ⟨W.heap.size, 0, none⟩) m m) (W' := W.alloc (.cells (madeCells z.cells (m * i.size)) (elT P t))) (by simp only [execOp, hx', hy', Sem.run_bind, hmk, Result.andThen_ok]; rfl) ?_
  have hst := st.alloc (madeCells z.cells (m * i.size)).toList (elT P t)
  rw [Array.toArray_toList] at hst
  have h5 : (madeCells z.cells (m * i.size)).toList = (reps (oL P (elT P t)) m).map Sc.val := h5
  rw [h5] at hst
  have hbl : Below W.heap.size W (W.alloc (.cells (madeCells z.cells (m * i.size)) (elT P t))) := eT (Below.refl _ _)
  exact k _ _ _ (h W.heap.size) rfl ⟨[_], rfl⟩ hbl (wC hst) (fa.up hbl)
 exact h.elim
def stT (P : Program) (s : S) (t : TypeId) (c : Sc) (v : SV) (K : S → Tr) : Tr :=
 match c with
 | .pt j b k o => match lku s.O j with
  | some (.bx b' pre cs post t') => .e0 b b' <| .e0 k pre.length <| .e0 ((P.info? t).map (·.size)) (some (tvC v).length) <| .e0 (Nat.ble (o + (tvC v).length) cs.length) true <| .e0 ((tvC v).all fun c => c.val.oneCell') true <|
    match v with
    | .on (.ce u) => .e0 u.val.cells #[u.val] (K ⟨s.E, (j, .bx b' pre (wP cs o (tvC v)) post t') :: dT s.O j, lasting s.B, s.nx⟩)
    | .on (.ag _) => K ⟨s.E, (j, .bx b' pre (wP cs o (tvC v)) post t') :: dT s.O j, lasting s.B, s.nx⟩
    | _ => .no
  | _ => .no
 | _ => .no
theorem stT_ok {w0 W : World} {s : S} {t : TypeId} {x y : Operand} {c : Sc} {v : SV} {K : S → Tr} {n : Nat} {f : Nat → Value} {Q : Exit → Act → World → Prop} {KK : Value → World → Prop} {d : Option Tmp} {ty : TypeId} {pos : String} {af : Array Go.Edge} {g : Option (Nat × Bool)}
  (hx : ev n f x = c.val) (hy : ev n f y = v.val) (h : (stT P s t c v K).holds) (st : St w0 W s.rs) (fa : Facts w0 W s.B) (k : ∀ s' W', (K s').holds → s'.E = s.E → St w0 W' s'.rs → Facts w0 W' s'.B → KK undef W') : Stp P n ⟨d, .store t x y, ty, pos, af, g⟩ f W Q KK := by
 unfold stT at h
 split at h
 ·split at h
  ·next hj =>
   obtain ⟨rfl, rfl, h1, h2, h3, h⟩ := h
   have st2 := St.take (rs := []) (by simpa [Or, S.rs] using st) hj
   simp only [append_nil] at st2
   replace h2 := Nat.le_of_ble_eq_true h2
   rw [all_eq_true] at h3
   split at h
   ·next u =>
    obtain ⟨h4, h⟩ := h
    have h5 := h3 u (by simp [tvC])
    refine bB (i := _) h1 hx hy h4 h5 st2 rfl (by simpa [tvC] using h2) rfl fun W' st' => k _ W' h rfl ?_ fa.lasting
    show St w0 W' (Res.bx _ (_ ++ (wP _ _ [u]).map Sc.val ++ _) _ :: _)
    rw [qF]
    exact st'
   ·next l =>
    refine stp_store_bps (cs := l.map Sc.val) (i := _) (by simpa [tvC] using h1) hx hy ?_ st2 rfl (by simpa [tvC] using h2) rfl fun W' st' => k _ W' h rfl ?_ fa.lasting
    ·intro v hv
     obtain ⟨c, hc, rfl⟩ := mem_map.1 hv
     exact h3 c hc
    show St w0 W' (Res.bx _ (_ ++ (wP _ _ l).map Sc.val ++ _) _ :: _)
    rw [qF]
    exact st'
   exact h.elim
  exact h.elim
 exact h.elim
/-! ### Calls -/
def crb : List Lr → S → (List Sc → S → Tr) → Tr
 | [], s, K => K [] s
 | .v x :: ls, s, K => crb ls s fun cs s => K (sc x :: cs) s
 | .o i xs :: ls, s, K => .fn fun g : Hd × List Nat => crb ls ⟨s.E, (s.nx, .own i g.1 xs g.2) :: s.O, s.B, s.nx + 1⟩ fun cs s' => K (.rf s.nx g.1 :: cs) s'
 | .r i e xs :: ls, s, K => .fn fun g : Hd × List Nat => crb ls ⟨s.E, (s.nx, .row i e g.1 xs g.2) :: s.O, s.B, s.nx + 1⟩ fun cs s' => K (.rf s.nx g.1 :: cs) s'
theorem vZ {G : Prop} {w0 W : World} {rs : List Res} : ∀ {ls : List Lr} {s : S} {K : List Sc → S → Tr} {cs : List Value} {r : List Res}, (crb ls s K).holds → LvR cs ls r → St w0 W (r ++ (rs ++ s.rs)) →
  (∀ scs s', (K scs s').holds → scs.map Sc.val = cs → s'.E = s.E → s'.B = s.B → (∃ N, s'.O = N ++ s.O) → St w0 W (rs ++ s'.rs) → lrs ls → G) → G
 | [], s, K, [], r, h, hr, st, k => by
  have hr : r = [] := hr
  subst hr
  exact k [] s h rfl rfl rfl ⟨[], rfl⟩ st trivial
 | [], s, K, c :: cs, r, h, hr, st, k => hr.elim
 | .v _ :: _, s, K, [], r, h, hr, st, k => hr.elim
 | .o _ _ :: _, s, K, [], r, h, hr, st, k => hr.elim
 | .r _ _ _ :: _, s, K, [], r, h, hr, st, k => hr.elim
 | .v x :: ls, s, K, c :: cs, r, h, hr, st, k => by
  obtain ⟨e0, hr⟩ := hr
  subst e0
  refine vZ (K := fun cs s => K (sc c :: cs) s) h hr st fun scs s' h' e1 e2 e3 e4 st' hg => k _ s' h' ?_ e2 e3 e4 st' hg
  rw [map_cons, jR, e1]
 | .o i xs :: ls, s, K, c :: cs, r, h, hr, st, k => by
  obtain ⟨fp, r2, rfl, hr⟩ := hr
  have hs := aR (st.get 0 rfl)
  obtain ⟨hd, rfl, hn⟩ := hs.hd
  refine vZ (K := fun cs s' => K (.rf s.nx hd :: cs) s') (h (hd, fp)) hr ?_ fun scs s' h' e1 e2 e3 e4 st' hg => k _ s' h' ?_ e2 e3 (e4.elim fun N hN => ⟨N ++ [(s.nx, .own i hd xs fp)], by rw [hN]; simp⟩) st' ⟨hs.len_le, hg⟩
  ·refine st.perm ?_
   rw [← append_assoc, ← append_assoc]
   exact perm_middle (a := Res.own hd.val xs fp) (l₁ := r2 ++ rs) (l₂ := s.rs)
  ·rw [map_cons, e1]; rfl
 | .r i e xs :: ls, s, K, c :: cs, r, h, hr, st, k => by
  obtain ⟨fe, r2, rfl, hr⟩ := hr
  have hs := cN (st.get 0 rfl)
  obtain ⟨hd, rfl, hn⟩ := hs.hd
  refine vZ (K := fun cs s' => K (.rf s.nx hd :: cs) s') (h (hd, fe)) hr ?_ fun scs s' h' e1 e2 e3 e4 st' hg => k _ s' h' ?_ e2 e3 (e4.elim fun N hN => ⟨N ++ [(s.nx, .row i e hd xs fe)], by rw [hN]; simp⟩) st' ⟨hs.len_le, hg⟩
  ·refine st.perm ?_
   rw [← append_assoc, ← append_assoc]
   exact perm_middle (a := Res.row e hd.val xs fe) (l₁ := r2 ++ rs) (l₂ := s.rs)
  ·rw [map_cons, e1]; rfl
def rkb : List Rk → S → (List TV → S → Tr) → Tr
 | [], s, K => K [] s
 | .v x :: ks, s, K => rkb ks s fun ts s => K (.ce (sc x) :: ts) s
 | .sl i xs :: ks, s, K => .fn fun g : Hd × List Nat => rkb ks ⟨s.E, (s.nx, .own i g.1 xs g.2) :: s.O, s.B, s.nx + 1⟩ fun ts s' => K (.ce (.rf s.nx g.1) :: ts) s'
 | .rw i e xs :: ks, s, K => .fn fun g : Hd × List Nat => rkb ks ⟨s.E, (s.nx, .row i e g.1 xs g.2) :: s.O, s.B, s.nx + 1⟩ fun ts s' => K (.ce (.rf s.nx g.1) :: ts) s'
 | .own i x :: ks, s, K => xU (i.lv x) s fun cs s => rkb ks s fun ts s => K (.ag cs :: ts) s
 | .cl ls :: ks, s, K => crb ls s fun cs s => rkb ks s fun ts s => K (.ag cs :: ts) s
theorem lU {G : Prop} {w0 W : World} : ∀ {ks : List Rk} {s : S} {K : List TV → S → Tr} {vs : List Value} {rs : List Res}, (rkb ks s K).holds → Rks vs ks rs → St w0 W (rs ++ s.rs) →
  (∀ ts s', (K ts s').holds → ts.map TV.val = vs → s'.E = s.E → s'.B = s.B → (∃ N, s'.O = N ++ s.O) → St w0 W s'.rs → gds ks → G) → G
 | [], s, K, [], rs, h, hr, st, k => by
  have hr : rs = [] := hr
  subst hr
  exact k [] s h rfl rfl rfl ⟨[], rfl⟩ st trivial
 | [], s, K, v :: vs, rs, h, hr, st, k => hr.elim
 | .v x :: ks, s, K, [], rs, h, hr, st, k => hr.elim
 | .sl _ _ :: ks, s, K, [], rs, h, hr, st, k => hr.elim
 | .own _ _ :: ks, s, K, [], rs, h, hr, st, k => hr.elim
 | .cl _ :: ks, s, K, [], rs, h, hr, st, k => hr.elim
 | .rw _ _ _ :: ks, s, K, [], rs, h, hr, st, k => hr.elim
 | .cl ls :: ks, s, K, v :: vs, rs, h, hr, st, k => by
  obtain ⟨r1, r2, ⟨cs, rfl, hl⟩, h2, rfl⟩ := hr
  rw [append_assoc] at st
  refine vZ (K := fun cs s => rkb ks s fun ts s => K (.ag cs :: ts) s) h hl st fun scs s1 h1 e1 e2 e3 g1 st2 hlr => (lU (K := fun ts s => K (.ag scs :: ts) s) h1 h2 st2 fun ts s' h' e4 e5 e6 g2 st' hg => k _ s' h' ?_ (e5.trans e2) (e6.trans e3) (g1.elim fun N hN => g2.elim fun M hM => ⟨M ++ N, by rw [hM, hN, append_assoc]⟩) st' ⟨hlr, hg⟩)
  rw [map_cons, e4, TV.val, e1]
 | .v x :: ks, s, K, v :: vs, rs, h, hr, st, k => by
  obtain ⟨r1, r2, ⟨rfl, rfl⟩, h2, rfl⟩ := hr
  refine lU (K := fun ts s => K (.ce (sc v) :: ts) s) h h2 st fun ts s' h' e1 e2 e3 e4 st' hg => k _ s' h' ?_ e2 e3 e4 st' hg
  rw [map_cons, e1, TV.val, jR]
 | .sl i xs :: ks, s, K, v :: vs, rs, h, hr, st, k => by
  obtain ⟨r1, r2, ⟨fp, rfl⟩, h2, rfl⟩ := hr
  have hs := aR (st.get 0 rfl)
  obtain ⟨hd, rfl, hn⟩ := hs.hd
  refine lU (K := fun ts s' => K (.ce (.rf s.nx hd) :: ts) s') (h (hd, fp)) h2 ?_ fun ts s' h' e1 e2 e3 e4 st' hg => k _ s' h' ?_ e2 e3 (e4.elim fun N hN => ⟨N ++ [(s.nx, .own i hd xs fp)], by rw [hN]; simp⟩) st' ⟨hs.len_le, hg⟩
  ·exact st.perm (perm_middle (a := Res.own hd.val xs fp) (l₁ := r2) (l₂ := s.rs))
  ·rw [map_cons, e1]; rfl
 | .rw i e xs :: ks, s, K, v :: vs, rs, h, hr, st, k => by
  obtain ⟨r1, r2, ⟨fe, rfl⟩, h2, rfl⟩ := hr
  have hs := cN (st.get 0 rfl)
  obtain ⟨hd, rfl, hn⟩ := hs.hd
  refine lU (K := fun ts s' => K (.ce (.rf s.nx hd) :: ts) s') (h (hd, fe)) h2 ?_ fun ts s' h' e1 e2 e3 e4 st' hg => k _ s' h' ?_ e2 e3 (e4.elim fun N hN => ⟨N ++ [(s.nx, .row i e hd xs fe)], by rw [hN]; simp⟩) st' ⟨hs.len_le, hg⟩
  ·exact st.perm (perm_middle (a := Res.row e hd.val xs fe) (l₁ := r2) (l₂ := s.rs))
  ·rw [map_cons, e1]; rfl
 | .own i x :: ks, s, K, v :: vs, rs, h, hr, st, k => by
  obtain ⟨r1, r2, ⟨cs, fp, rfl, rfl⟩, h2, rfl⟩ := hr
  obtain ⟨st1, hg1⟩ := St.cs_pc i st
  refine nD (K := fun cs s => rkb ks s fun ts s => K (.ag cs :: ts) s) h st1 fun scs s1 h1 e1 e2 e3 g1 st2 hl => (lU (K := fun ts s => K (.ag scs :: ts) s) h1 h2 st2 fun ts s' h' e4 e5 e6 g2 st' hg => k _ s' h' ?_ (e5.trans e2) (e6.trans e3) (g1.elim fun N hN => g2.elim fun M hM => ⟨M ++ N, by rw [hM, hN, append_assoc]⟩) st' ⟨⟨hg1, hl⟩, hg⟩)
  rw [map_cons, e4, TV.val, e1]
def aC5 : List TV → SV
 | [t] => .on t
 | ts => .tu ts
theorem pQ (ts : List TV) : (aC5 ts).val = wO (ts.map TV.val) := by
 match ts with
 | [] => rfl
 | [t] => rfl
 | _ :: _ :: _ => rfl
def clT (s : S) (lk : Operand → Option SV) (F : FuncId) (xs : List Operand) (d : D P R) (K : SV → S → D P R → Tr) : Tr :=
 nrm d fun d => match d with
  | .cq (ps := ps) (rk := rk) (G := G) F' (fn := fn) _ _ _ k => .e0 F F' <| .e0 ((fn.name == "runtime.NumGoroutine") || fn.body.isNone) false <| opt (lkv lk xs) fun us => lA s us ps <| grT s G <| rkb rk s fun ts s' => .fp (gds rk) fun hg => K (aC5 ts) s' (k hg)
  | .cl (ps := ps) (R' := R') (rk := rk) (G := G) F' (fn := fn) _ _ _ k => .e0 F F' <| .e0 ((fn.name == "runtime.NumGoroutine") || fn.body.isNone) false <| opt (lkv lk xs) fun us => lA s us ps <| grT s G <| .fn fun a => .fp (R' a) fun ha => rkb (rk a) s fun ts s' => .fp (gds (rk a)) fun hg => K (aC5 ts) s' (k a ha hg)
  | _ => .no
theorem clT_ok {w0 W : World} {s : S} {lk : Operand → Option SV} {F : FuncId} {xs : List Operand} {ats : Array TypeId} {dd : D P R} {K : SV → S → D P R → Tr} {n : Nat} {f : Nat → Value} {Q : Exit → Act → World → Prop} {KK : Value → World → Prop} {d : Option Tmp} {ty : TypeId} {pos : String} {af : Array Go.Edge} {g : Option (Nat × Bool)}
  (hl : ∀ x u, lk x = some u → ev n f x = u.val) (h : (clT s lk F xs dd K).holds) (st : St w0 W s.rs) (fa : Facts w0 W s.B) (k : ∀ v s' d' W', (K v s' d').holds → s'.E = s.E → (∃ N, s'.O = N ++ s.O) → Below W.heap.size W W' → St w0 W' s'.rs → Facts w0 W' s'.B → KK v.val W') : Stp P n ⟨d, .call { callee := .value (.func F), args := xs.toArray, argTypes := ats }, ty, pos, af, g⟩ f W Q KK := by
 unfold clT at h
 refine dZ h fun d' h => ?_
 split at h
 ·next ps rk G0 F' fn hf hct hg kk =>
  obtain ⟨rfl, ho, h⟩ := h
  refine aW h fun us hus h => ?_
  obtain ⟨hp, h⟩ := kZ st fa h hg
  obtain ⟨hG, h⟩ := aE1 h st.below fa
  refine iP hf ho (sF hl hus) ((hct.run W _ hG hp).mono ?_)
  rintro e W' ⟨_, vs, rs, _, rfl, hr, hst'⟩
  refine lU h hr (st.call hst') fun ts s' h' e1 e2 e3 e4 st' hgd => ?_
  exact ⟨_, rfl, by rw [← e1, ← pQ]; exact k _ s' _ W' (h' hgd) e2 e4 hst'.below st' (by rw [e3]; exact fa.up hst'.below)⟩
 ·next A' ps R' rk G0 F' fn hf hct hg kk =>
  obtain ⟨rfl, ho, h⟩ := h
  refine aW h fun us hus h => ?_
  obtain ⟨hp, h⟩ := kZ st fa h hg
  obtain ⟨hG, h⟩ := aE1 h st.below fa
  refine iP hf ho (sF hl hus) ((hct.run W _ hG hp).mono ?_)
  rintro e W' ⟨a, vs, rs, ha, rfl, hr, hst'⟩
  refine lU (h a ha) hr (st.call hst') fun ts s' h' e1 e2 e3 e4 st' hgd => ?_
  exact ⟨_, rfl, by rw [← e1, ← pQ]; exact k _ s' _ W' (h' hgd) e2 e4 hst'.below st' (by rw [e3]; exact fa.up hst'.below)⟩
 exact h.elim
end
end Go.Proofs.YtanpcpoogkdlaaaGreat
namespace Go.Proofs.YtanpcpoogkdlaaaGreat
set_option linter.unusedSimpArgs false
set_option linter.unusedVariables false
set_option maxHeartbeats 1000000
set_option maxHeartbeats 2000000
open Go.RowKit Go.Proofs.Tryz List

theorem sT {W : World} : ∀ {l1 l2 : List Lf} {cs : List Value} {fp : List Nat}, eM W cs (l1 ++ l2) fp → ∃ c1 c2 f1 f2, cs = c1 ++ c2 ∧ eM W c1 l1 f1 ∧ eM W c2 l2 f2 ∧ fp = f1 ++ f2
 | [], l2, cs, fp, h => ⟨[], cs, [], fp, rfl, rfl, h, rfl⟩
 | .v x :: l1, l2, c :: cs, fp, h => by
  obtain ⟨c1, c2, f1, f2, rfl, h1, h2, rfl⟩ := sT (l1 := l1) h.2
  exact ⟨c :: c1, c2, f1, f2, rfl, ⟨h.1, h1⟩, h2, rfl⟩
 | .s β i ys :: l1, l2, c :: cs, fp, h => by
  obtain ⟨g1, g2, h0, h, rfl⟩ := h
  obtain ⟨c1, c2, f1, f2, rfl, h1, h2, rfl⟩ := sT (l1 := l1) h
  exact ⟨c :: c1, c2, g1 ++ f1, f2, rfl, ⟨g1, f1, h0, h1, rfl⟩, h2, by simp⟩
 | .v x :: l1, l2, [], fp, h => h.elim
 | .s β i ys :: l1, l2, [], fp, h => h.elim
def lvs {α : Type} (i : Dsh α) : List α → List Lf
 | [] => []
 | y :: ys => i.lv y ++ lvs i ys
theorem rD {α : Type} (i : Dsh α) {W : World} : ∀ {ys : List α} {cs : List Value} {fp : List Nat}, eM W cs (lvs i ys) fp → (∀ y ∈ ys, i.good y) → @Elems α i.toShape W cs ys fp
 | [], [], fp, h, _ => ⟨rfl, h⟩
 | [], _ :: _, fp, h, _ => h.elim
 | y :: ys, cs, fp, h, hg => by
  obtain ⟨c1, c2, f1, f2, rfl, h1, h2, rfl⟩ := sT h
  exact ⟨c1, c2, f1, f2, rfl, i.inn (hg y mem_cons_self) h1, rD i h2 fun y hy => hg y (mem_cons_of_mem _ hy), rfl⟩
theorem uY {α : Type} [Shape α] (hp : kC α) {W : World} : ∀ {xs : List α} {cells : List Value} {fp : List Nat}, Elems W cells xs fp → fp = []
 | [], _, _, h => h.2
 | x :: xs, _, _, ⟨cs, rest, f1, f2, h1, h2, h3, h4⟩ => by rw [h4, hp _ _ _ _ h2, uY hp h3]; rfl
section
variable {P : Program} {n : Nat} {f : Nat → Value} {w0 W : World} {rs : List Res} {Q : Exit → Act → World → Prop} {d : Option Tmp} {ty : TypeId} {pos : String} {af : Array Go.Edge} {g : Option (Nat × Bool)} {K : Value → World → Prop}
theorem stp_append_pc {α : Type} (i : Dsh α) {t e e' : TypeId} {bytes : Nat} {s x : Operand} {v : Value} {xs ys : List α} {fe fz : List Nat} {b m : Nat} {cs : List Value} (hT : ApOk P t e α bytes) (hs : ev n f s = v) (hx : ev n f x = .slice (some ⟨b, 0, none⟩) m m) (hm : ys.length = m) (hg : ∀ y ∈ ys, i.good y)
  (hst : St w0 W (Res.row e v xs fe :: Res.bx b cs e' :: Res.pc cs (lvs i ys) fz :: rs)) (h63 : xs.length + m ≤ maxLen) (hby : (xs.length + m) * bytes ≤ 140737488355328)
  (k : ∀ v' fe' W', St w0 W' (Res.row e v' (xs ++ ys) fe' :: rs) → K v' W') :
  Stp P n ⟨d, .call { callee := .builtin .append, args := #[s, x], argTypes := #[t, t] }, ty, pos, af, g⟩ f W Q K := by
 have hc := hst.get 2 rfl
 have hst2 : St w0 W (Res.row e v xs fe :: Res.bx b cs e' :: rs) := hst.d2
 have hb := hst.get 1 rfl
 have hn := hst.nodup
 have h2 := hst.f2
 have hn2 := h2.nodup
 rw [flatMap_cons, nodup_append] at hn2
 refine jQ hT hs hx hm hst2 (rD i hc.1 hg) ?_ hc.2 hn2.1 ?_ h63 hby fun v' W' st' => k v' _ W' st'.d1
 ·intro j u hj
  rw [Addr.add_mid]
  exact cI hb j u hj
 intro a ha
 refine ⟨fun h => hn2.2.2 a ha a ?_ rfl, fun h => hn2.2.2 a ha a ?_ rfl, h2.fresh (Res.pc cs (lvs i ys) fz) (by simp) a ha⟩
 ·rw [flatMap_cons]; exact mem_append_left _ h
 rw [flatMap_cons]; exact mem_append_right _ h
end
theorem St.lit {α : Type} (i : Dsh α) {w0 W : World} {b : Nat} {cs : List Value} {t : TypeId} {ys : List α} {fp : List Nat} {rs : List Res} (hne : ys ≠ []) (hl : ys.length ≤ 1000000) (hg : ∀ y ∈ ys, i.good y) (st : St w0 W (Res.bx b cs t :: Res.pc cs (lvs i ys) fp :: rs)) : St w0 W (@Res.own (List α) _ _ (Hd.val ⟨some ⟨b, 0, none⟩, ys.length, ys.length⟩) ys (b :: fp) :: rs) := by
 have hb : W.heap[b]? = some (.cells cs.toArray t (0, 0)) := st.get 0 rfl
 have hc := st.get 1 rfl
 have he := rD i hc.1 hg
 refine St.trade (rs1 := [Res.bx b cs t, Res.pc cs (lvs i ys) fp]) (rs2 := [_]) st ?_ ?_ ?_
 ·have hn := st.nodup
  rw [flatMap_cons, flatMap_cons, ← append_assoc, nodup_append] at hn
  simpa [Res.own, Res.bx, Res.pc] using hn.1
 ·intro c hc
  simpa [Res.own, Res.bx, Res.pc] using hc
 intro r hr
 simp only [mem_singleton] at hr
 subst hr
 have hsl : Sl W (Hd.val ⟨some ⟨b, 0, none⟩, ys.length, ys.length⟩) ys (b :: fp) :=
  ⟨some ⟨b, 0, none⟩, ys.length, rfl, Nat.le_refl _, by omega, .inr ⟨b, 0, fp, hne, rfl, rfl, (Array.getElem?_eq_some_iff.1 hb).1, he.at 0 (cI hb)⟩⟩
 refine ⟨hsl.v, fun c hm => ?_⟩
 rcases mem_cons.1 hm with rfl | hm
 ·exact ⟨_, _, hb⟩
 exact hc.2 c hm
theorem St.litrow {α : Type} (i : Dsh α) (hp : @kC α i.toShape) {w0 W : World} {b : Nat} {cs : List Value} {t : TypeId} {ys : List α} {fp : List Nat} {rs : List Res} (hl : ys.length ≤ 1000000) (hg : ∀ y ∈ ys, i.good y) (st : St w0 W (Res.bx b cs t :: Res.pc cs (lvs i ys) fp :: rs)) : St w0 W (@Res.row α i.toShape t (Hd.val ⟨some ⟨b, 0, none⟩, ys.length, ys.length⟩) ys [] :: rs) := by
 have hc := st.get 1 rfl
 have he := rD i hc.1 hg
 have hf := uY hp he
 subst hf
 exact St.row_lit (m := ys.length) (st.d1) rfl (by unfold maxLen; omega) he
/-! ### Bytes of a string -/
theorem nH {W : World} : ∀ xs : List UInt8, Elems W (xs.map fun y => Value.int .u8 (y.toNat : Int)) xs []
 | [] => ⟨rfl, rfl⟩
 | y :: xs => ⟨[.int .u8 (y.toNat : Int)], _, [], [], rfl, ⟨rfl, rfl, trivial⟩, nH xs, rfl⟩
theorem stp_bytesOf_sl {P : Program} {n : Nat} {f : Nat → Value} {W w0 : World} {rs : List Res} {Q : Exit → Act → World → Prop} {K : Value → World → Prop} {d : Option Tmp} {ty : TypeId} {pos : String} {af : Array Go.Edge} {g : Option (Nat × Bool)} {x : Operand} {t t' e : TypeId} {s : ByteArray}
  (hs : P.underlying t = some .string) (hd : P.underlying t' = some (.slice e)) (he : P.underlying e = some (.int .u8)) (hx : ev n f x = .string s) (hl : s.size ≤ maxLen) (hst : St w0 W rs)
  (k : ∀ v fp W', Below W.heap.size W W' → St w0 W' rs → Sl W' v s.data.toList fp → K v W') : Stp P n ⟨d, .convert t t' x, ty, pos, af, g⟩ f W Q K := by
 have hrun := run_bytes_of_string (P := P) W t t' e s hs hd he
 have hge := grownCap_ge W s.size 0 e
 have hcm := grownCap_le_maxLen W s.size 0 e hl
 have hl2 : s.data.toList.length = s.size := by rw [Array.length_toList]; rfl
 refine Stp.run (v := _) (W' := _) (by simp only [execOp, hx, Sem.run_bind, hrun, Result.andThen_ok]; rfl) (k _ (if s.data.toList = [] then [] else [W.heap.size]) _ ?_ ?_ ?_)
 ·exact ⟨rfl, rfl, rfl, by simp, fun j hj => Below.heap_alloc W.drew _ j hj⟩
 ·exact hst.call (rs' := []) (St.of_below ⟨rfl, rfl, rfl, by simp, fun j hj => Below.heap_alloc W.drew _ j hj⟩)
 refine ⟨some ⟨W.heap.size, 0, none⟩, grownCap W s.size 0 e, by rw [hl2], by rw [hl2]; exact hge, hcm, ?_⟩
 by_cases hne : s.data.toList = []
 ·exact .inl ⟨hne, by rw [if_pos hne]⟩
 have hh := heap_alloc_new W.drew (.cells (bytesRow s (grownCap W s.size 0 e)) e ((bytesRow s (grownCap W s.size 0 e)).size, (bytesRow s (grownCap W s.size 0 e)).size + 1))
 refine .inr ⟨W.heap.size, 0, [], hne, rfl, by rw [if_neg hne], (Array.getElem?_eq_some_iff.1 hh).1, (nH s.data.toList).at 0 ?_⟩
 intro j u hj
 have hjl : j < s.data.toList.length := by
  have := (gsi_.1 hj).1
  simpa using this
 rw [cell_of_row _ W.heap.size (0 + j) _ e _ hh]
 rw [← Array.getElem?_toList]
 unfold bytesRow
 rw [Array.toList_append, Array.toList_map, Nat.zero_add, getElem?_append_left (by simpa using hjl)]
 exact hj
section
variable {P : Program} {A : Type} {R : A → Prop}
def byT (P : Program) {A : Type} {R : A → Prop} (s : S) (t t' : TypeId) (c : Sc) (d : D P R) (K : SV → S → D P R → Tr) : Tr :=
 match d with
 | .by_ b _ k => .e0 c.val (.string b) <| .e0 (P.underlying t) (some .string) <| .e0 (P.underlying t') (some (.slice (elT0 P t'))) <| .e0 (P.underlying (elT0 P t')) (some (.int .u8)) <|
   .fn fun g : Hd × List Nat => K (one (.rf s.nx g.1)) ⟨s.E, s.O, (s.nx, false, .sl (inferInstance : Shape UInt8) g.1 b.data.toList g.2) :: s.B, s.nx + 1⟩ k
 | _ => .no
theorem byT_ok {w0 W : World} {s : S} {t t' : TypeId} {x : Operand} {c : Sc} {dd : D P R} {K : SV → S → D P R → Tr} {n : Nat} {f : Nat → Value} {Q : Exit → Act → World → Prop} {KK : Value → World → Prop} {d : Option Tmp} {ty : TypeId} {pos : String} {af : Array Go.Edge} {g : Option (Nat × Bool)}
  (hx : ev n f x = c.val) (h : (byT P s t t' c dd K).holds) (st : St w0 W s.rs) (fa : Facts w0 W s.B) (k : ∀ v s' d' W', (K v s' d').holds → s'.E = s.E → s'.O = s.O → Below W.heap.size W W' → St w0 W' s'.rs → Facts w0 W' s'.B → KK v.val W') : Stp P n ⟨d, .convert t t' x, ty, pos, af, g⟩ f W Q KK := by
 unfold byT at h
 split at h
 ·next b hb kk =>
  obtain ⟨h1, h2, h3, h4, h5⟩ := h
  refine stp_bytesOf_sl h2 h3 h4 (hx.trans h1) hb st fun v fp W' hbl st' hs => ?_
  obtain ⟨hd, rfl, _⟩ := hs.hd
  refine k _ _ _ W' (h5 (hd, fp)) rfl rfl hbl st' fun e he => ?_
  rcases mem_cons.1 he with rfl | he
  ·exact hs
  exact fa.up hbl e he
 exact h.elim
end
/-! ### An own slice becomes what is left of it -/
theorem plain_nodup {α : Type} [Shape α] (hp : kC α) {W : World} {v : Value} {xs : List α} {g : List Nat} (h : Sl W v xs g) : g.Nodup := by
 obtain ⟨ao, cap, rfl, _, _, h⟩ := h
 rcases h with ⟨_, rfl⟩ | ⟨b, o, fp, _, _, rfl, _, hs⟩
 ·exact nodup_nil
 rw [hs.plain hp]; simp
section
variable {P : Program} {A : Type} {R : A → Prop}
def dqT (P : Program) {A : Type} {R : A → Prop} (s : S) (t : TypeId) (c y : Sc) (d : D P R) (K : SV → S → D P R → Tr) : Tr :=
 match c, d with
 | .rf j h, .dq i _ xs n _ e _ k => match lku s.O j with
  | some (.own i' h' xs' _) => .e0 h h' <| .e1 (⟨i', xs'⟩ : Dat) ⟨i, xs⟩ <| .e0 y.val (I e) <| .e0 (elK P t) (some i.size) <|
    .fn fun g : Hd × List Nat => K (one (.rf j g.1)) ⟨s.E, (j, .own i g.1 (xs.drop n) g.2) :: dT s.O j, s.B, s.nx⟩ k
  | some (.row i' _ h' xs' _) => .e0 h h' <| .e1 (⟨i', xs'⟩ : Dat) ⟨i, xs⟩ <| .e0 y.val (I e) <| .e0 (elK P t) (some i.size) <|
    .fn fun g : Hd × List Nat => K (one (.rf j g.1)) ⟨s.E, (j, .own i g.1 (xs.drop n) g.2) :: dT s.O j, s.B, s.nx⟩ k
  | _ => .no
 | _, _ => .no
theorem dqT_ok {w0 W : World} {s : S} {t : TypeId} {x y : Operand} {c cy : Sc} {dd : D P R} {K : SV → S → D P R → Tr} {n : Nat} {f : Nat → Value} {Q : Exit → Act → World → Prop} {KK : Value → World → Prop} {d : Option Tmp} {ty : TypeId} {pos : String} {af : Array Go.Edge} {g : Option (Nat × Bool)}
  (hx : ev n f x = c.val) (hy : ev n f y = cy.val) (h : (dqT P s t c cy dd K).holds) (st : St w0 W s.rs) (fa : Facts w0 W s.B) (k : ∀ v s' d', (K v s' d').holds → s'.E = s.E → St w0 W s'.rs → Facts w0 W s'.B → KK v.val W) :
  Stp P n ⟨d, .slice t x (some y) none none, ty, pos, af, g⟩ f W Q KK := by
 unfold dqT at h
 have st1 : St w0 W (Or s.O ++ []) := by simpa [Or, S.rs] using st
 have key : ∀ {α : Type} {i : Shape α} (hp : kC α) {xs : List α} {m : Nat} (hm : m ≤ xs.length) {e : Int} (he : e = m) {h' : Hd} {fp : List Nat} {rs : List Res} (h1 : c.val = h'.val) (h2 : cy.val = I e) (h3 : elK P t = some i.size) (st2 : St w0 W (Res.own h'.val xs fp :: rs)) (kk : ∀ (hd : Hd) (g : List Nat), St w0 W (Res.own hd.val (xs.drop m) g :: rs) → KK hd.val W), Stp P n ⟨d, .slice t x (some y) none none, ty, pos, af, g⟩ f W Q KK := by
  intro α i hp xs m hm e he h' fp rs h1 h2 h3 st2 kk
  have hs := aR (st2.get 0 rfl)
  obtain ⟨u, gg, hs', hsub, hstep⟩ := slq_l hs hm
  obtain ⟨hd2, rfl, _⟩ := hs'.hd
  obtain ⟨e2, hT⟩ := pY h3
  refine hstep hT (hx.trans h1) (hy.trans h2) he (kk hd2 gg (St.trade (rs1 := [Res.own h'.val xs fp]) (rs2 := [Res.own hd2.val (xs.drop m) gg]) st2 ?_ ?_ ?_))
  ·simpa [Res.own] using plain_nodup hp hs'
  ·intro b hb
   simp only [flatMap_cons, flatMap_nil, append_nil, Res.own] at hb ⊢
   exact hsub b hb
  intro r hr
  simp only [mem_singleton] at hr
  subst hr
  exact ⟨hs'.v, fun b hb => (st2.get 0 rfl).2 b (hsub b hb)⟩
 split at h
 ·next α j hd i hp xs m hm e he kk =>
  split at h
  ·next i' h' xs' fp hj =>
   obtain ⟨rfl, h4, h5, h6, h7⟩ := h
   simp only [Dat.mk.injEq] at h4
   obtain ⟨rfl, h8, h9⟩ := h4
   obtain ⟨rfl, rfl⟩ := And.intro (eq_of_heq h8) (eq_of_heq h9)
   have st2 := st1.take hj
   refine key hp hm he rfl h5 h6 st2 fun hd2 gg st3 => k _ _ _ (h7 (hd2, gg)) rfl ?_ fa
   have st4 := st3
   rw [append_nil] at st4
   exact st4
  ·next i' te h' xs' fe hj =>
   obtain ⟨rfl, h4, h5, h6, h7⟩ := h
   simp only [Dat.mk.injEq] at h4
   obtain ⟨rfl, h8, h9⟩ := h4
   obtain ⟨rfl, rfl⟩ := And.intro (eq_of_heq h8) (eq_of_heq h9)
   obtain ⟨fp, st2⟩ := St.shut (st1.take hj)
   refine key hp hm he rfl h5 h6 st2 fun hd2 gg st3 => k _ _ _ (h7 (hd2, gg)) rfl ?_ fa
   have st4 := st3
   rw [append_nil] at st4
   exact st4
  exact h.elim
 exact h.elim
def aJ3 {α : Type} (P : Program) (s : S) (t : TypeId) (c : Sc) (i : Shape α) (xs : List α) (bytes : Nat) (K : Nat → TypeId → List (Nat × Ob) → Nat → Tr) : Tr :=
 .e0 (P.underlying t) (some (.slice (elT P t))) <| .e0 ((P.info? (elT P t)).bind (fun i => i.zero.map (fun z => (i.size, i.bytes, z.cells.size)))) (some (i.size, bytes, i.size)) <| .e0 (Nat.ble 1 i.size) true <|
  match c with
  | .rf j h => match lku s.O j with
   | some (.row i' e h' xs' _) => .e0 h h' <| .e0 e (elT P t) <| .e1 (⟨i', xs'⟩ : Dat) ⟨i, xs⟩ (K j e (dT s.O j) s.nx)
   | _ => .no
  | .vl (.slice none 0 0) => .e1 (⟨i, []⟩ : Dat) ⟨i, xs⟩ (K s.nx (elT P t) s.O (s.nx + 1))
  | _ => .no
theorem wE {G : Prop} {α : Type} {s : S} {t : TypeId} {c : Sc} {i : Shape α} {xs : List α} {bytes : Nat} {K : Nat → TypeId → List (Nat × Ob) → Nat → Tr} {w0 W : World} (h : (aJ3 P s t c i xs bytes K).holds) (st : St w0 W s.rs)
  (k : ∀ j e O nx fe, (K j e O nx).holds → ApOk P t e α bytes → St w0 W (Res.row e c.val xs fe :: Or O) → G) : G := by
 obtain ⟨h1, h2, h3, h⟩ := h
 have hT : ApOk P t (elT P t) α bytes := wF h1 h2 (Nat.le_of_ble_eq_true h3)
 split at h
 ·split at h
  ·next j hd _ i' e h' xs' fe hj =>
   obtain ⟨rfl, rfl, h4, h⟩ := h
   simp only [Dat.mk.injEq] at h4
   obtain ⟨rfl, h5, h6⟩ := h4
   obtain ⟨rfl, rfl⟩ := And.intro (eq_of_heq h5) (eq_of_heq h6)
   have st2 := St.take (rs := []) (by simpa [Or, S.rs] using st) hj
   simp only [append_nil] at st2
   exact k _ _ _ _ fe h hT st2
  exact h.elim
 ·obtain ⟨h4, h⟩ := h
  simp only [Dat.mk.injEq, heq_eq_eq, true_and] at h4
  subst h4
  exact k _ _ _ _ [] h hT (st.row_nil _)
 exact h.elim
def apT (P : Program) {A : Type} {R : A → Prop} (s : S) (t : TypeId) (c y : Sc) (d : D P R) (K : SV → S → D P R → Tr) : Tr :=
 nrm d fun d => match d with
  | .ap i xs ys _ bytes _ _ k => aJ3 P s t c i.toShape xs bytes fun j e O nx => match y with
   | .lt j2 b m => .e0 ys.length m <| match lku O j2 with
    | some (.bx b' pre cs post e') => .e0 b b' <| .e0 pre [] <| .e0 post [] <| jN (dT O j2) cs (lvs i ys) fun O' =>
      .fn fun g : Hd × List Nat => K (one (.rf j g.1)) ⟨s.E, (j, .row i.toShape e g.1 (xs ++ ys) g.2) :: O', lasting s.B, nx⟩ k
    | _ => .no
   | _ => .no
  | .as i _ xs ys bytes _ _ k => aJ3 P s t c i xs bytes fun j e O nx => slT ⟨s.E, O, s.B, s.nx⟩ y i ys <|
    .fn fun g : Hd × List Nat => K (one (.rf j g.1)) ⟨s.E, (j, .row i e g.1 (xs ++ ys) g.2) :: O, lasting s.B, nx⟩ k
  | _ => .no
theorem apT_ok {w0 W : World} {s : S} {t : TypeId} {x y : Operand} {c cy : Sc} {dd : D P R} {K : SV → S → D P R → Tr} {n : Nat} {f : Nat → Value} {Q : Exit → Act → World → Prop} {KK : Value → World → Prop} {d : Option Tmp} {ty : TypeId} {pos : String} {af : Array Go.Edge} {g : Option (Nat × Bool)}
  (hx : ev n f x = c.val) (hy : ev n f y = cy.val) (h : (apT P s t c cy dd K).holds) (st : St w0 W s.rs) (fa : Facts w0 W s.B) (k : ∀ v s' d' W', (K v s' d').holds → s'.E = s.E → St w0 W' s'.rs → Facts w0 W' s'.B → KK v.val W') :
  Stp P n ⟨d, .call { callee := .builtin .append, args := #[x, y], argTypes := #[t, t] }, ty, pos, af, g⟩ f W Q KK := by
 unfold apT at h
 refine dZ h fun d' h1 => ?_
 clear h
 split at h1
 ·next α i xs ys hg bytes h63 hby kk =>
  refine wE h1 st fun j e O nx fe h hT st2 => ?_
  clear h1
  split at h
  ·next j2 b m =>
   obtain ⟨rfl, h2⟩ := h
   split at h2
   ·next b' pre cs post e' hj =>
    obtain ⟨rfl, rfl, rfl, h⟩ := h2
    have st3 : St w0 W (Or O ++ [Res.row e c.val xs fe]) := st2.perm (perm_append_comm.trans (by simp))
    have st4 := st3.take hj
    have st5 : St w0 W (Or (dT O j2) ++ [Res.row e c.val xs fe, Res.bx b (cs.map Sc.val) e']) := by
     have := st4
     simp only [Ob.res, nil_append, append_nil] at this
     exact this.perm (by
      refine (perm_append_comm (l₁ := Or (dT O j2)) (l₂ := [Res.row e c.val xs fe, Res.bx b (cs.map Sc.val) e'])).trans ((List.Perm.swap _ _ _).trans ?_)
      exact (perm_append_comm (l₁ := [Res.row e c.val xs fe]) (l₂ := Or (dT O j2))).cons _)
    refine eN h st5 fun O' fp h' st6 => ?_
    have st7 : St w0 W (Res.row e c.val xs fe :: Res.bx b (cs.map Sc.val) e' :: Res.pc (cs.map Sc.val) (lvs i ys) fp :: Or O') := by
     refine st6.perm ((perm_append_comm (l₁ := [Res.row e c.val xs fe, Res.bx b (cs.map Sc.val) e']) (l₂ := Res.pc (cs.map Sc.val) (lvs i ys) fp :: Or O')).trans ?_)
     exact List.Perm.refl _
    refine stp_append_pc i hT hx hy rfl hg st7 h63 hby fun v' fe' W' st' => ?_
    have hs := cN (st'.get 0 rfl)
    obtain ⟨hd, rfl, hn⟩ := hs.hd
    exact k _ _ _ W' (h' (hd, fe')) rfl st' fa.lasting
   exact h2.elim
  exact h.elim
 ·next α i hp xs ys bytes h63 hby kk =>
  refine wE h1 st fun j e O nx fe h hT st2 => ?_
  obtain ⟨⟨fp, hs⟩, h⟩ := aC8 h (w0 := w0) (W := W) st2.d0 fa
  have hfe : fe = [] := by
   obtain ⟨⟨cells, _, he⟩, _⟩ := st2.get 0 rfl
   exact uY hp he
  subst hfe
  refine dQ hp hT hx hy hs (Below.refl _ _) st2 h63 hby fun v' W' st' => ?_
  have hs := cN (st'.get 0 rfl)
  obtain ⟨hd, rfl, hn⟩ := hs.hd
  exact k _ _ _ W' (h (hd, [])) rfl st' fa.lasting
 exact h1.elim
end
end Go.Proofs.YtanpcpoogkdlaaaGreat
namespace Go.Proofs.YtanpcpoogkdlaaaGreat
set_option linter.unusedSimpArgs false
set_option linter.unusedVariables false
set_option maxHeartbeats 1000000
set_option maxHeartbeats 2000000
open Go.RowKit Go.Proofs.Tryz List Go.Lib
theorem append_block_str {P : Program} {W W' : World} {t u ty e : TypeId} {i : TypeInfo} (ht : P.underlying t = some (.slice e)) (hu : P.underlying u = some .string) (hi : P.info? e = some i) (hz : i.zero = some (.int .u8 0)) (hsize : i.size = 1) (hby : i.bytes = 1)
  {v v' : Value} {n : Nat} {xs : List Value} (hown : W.ownsRow 0 e 1 v n xs) {s : ByteArray} (h63 : n + s.size ≤ maxLen) (hbytes : n + s.size ≤ 140737488355328) (hrun : (Builtin.append_ #[t, u] ty #[v, .string s]).run P W = .ok v' W') :
  ∀ a, v'.ownBlock = some a → v.ownBlock = some a ∨ W.heap.size ≤ a := by
 have hxl : xs.length = n := by simpa using hown.1
 have hsmall : n + s.size ≤ 9223372036854775807 := by simp only [maxLen] at h63; omega
 rcases hown.2 with ⟨rfl, rfl⟩ | ⟨g, cap, cur, rfl, hbg, hg, hnc, hcm, hcs, htake⟩
 ·by_cases hm : s.size = 0
  ·have hf := run_firstCells_string (P := P) W 1 s
   rw [hm] at hf
   have hr : (Builtin.append_ #[t, u] ty #[.slice none 0 0, .string s]).run P W = .ok (.slice none 0 0) W := by
    simp [Builtin.append_, run_underlying ht, run_underlying hu, sizeOf, typeInfo, hi, hsize, Builtin.lenOf, hm, hf]
   rw [hr] at hrun
   injection hrun with h1 h2
   subst h1
   intro a ha
   simp [Value.ownBlock] at ha
  have hr := run_append_nil_string (P := P) W t u ty e i (.int .u8 0) ht hu hi hz s aC aC (by rw [hby]; omega)
  rw [hr] at hrun
  injection hrun with h1 h2
  subst h1
  intro a ha
  simp [Value.ownBlock] at ha
  omega
 by_cases hroom : n + s.size ≤ cap
 ·have hcs' : cur.size = cap := by simpa using hcs
  have hr := run_append_room_string (P := P) W t u ty e i ht hu hi hsize g n cap cur hg s hroom aC
  rw [hr] at hrun
  injection hrun with h1 h2
  subst h1
  intro a ha
  exact .inl (by simpa [Value.ownBlock] using ha)
 have holds : ∀ j u, xs[j]? = some u → W.cell? ((⟨g, 0, none⟩ : Addr).add j) = some u := hown.cells (g := g) rfl
 have hr := run_append_grow_string (P := P) W t u ty e i (.int .u8 0) ht hu hi hz ⟨g, 0, none⟩ n cap xs (by rw [hsize]; simpa using hxl) holds s aC aC (by rw [hby]; exact growslice_fits aC aC)
 rw [hr] at hrun
 injection hrun with h1 h2
 subst h1
 intro a ha
 simp [Value.ownBlock] at ha
 omega
section
variable {P : Program} {n : Nat} {f : Nat → Value} {w0 W : World} {rs : List Res} {Q : Exit → Act → World → Prop} {d : Option Tmp} {ty : TypeId} {pos : String} {af : Array Go.Edge} {g : Option (Nat × Bool)} {K : Value → World → Prop}
theorem stp_append_str {t t' e : TypeId} {s x : Operand} {v : Value} {xs : List UInt8} {b : ByteArray} (hT : ApOk P t e UInt8 1) (hu : P.underlying t' = some .string) (hz0 : (P.info? e).bind (·.zero) = some (.int .u8 0)) (hs : ev n f s = v) (hx : ev n f x = .string b)
  (hst : St w0 W (Res.row e v xs [] :: rs)) (h63 : xs.length + b.size ≤ maxLen) (hby : xs.length + b.size ≤ 140737488355328)
  (k : ∀ v' W', St w0 W' (Res.row e v' (xs ++ b.data.toList) [] :: rs) → K v' W') :
  Stp P n ⟨d, .call { callee := .builtin .append, args := #[s, x], argTypes := #[t, t'] }, ty, pos, af, g⟩ f W Q K := by
 obtain ⟨⟨cells, ho, he⟩, hw⟩ := hst.get 0 rfl
 obtain ⟨i, z, hi, hz, h1, h2, h3⟩ := hT.info
 have hz1 : i.zero = some (.int .u8 0) := by simpa [hi] using hz0
 have h1' : i.size = 1 := h1
 obtain ⟨v', W', hrun, ho', hg, _⟩ := run_append_own_string (P := P) W 0 t t' ty e i hT.desc hu hi hz1 h1' h2 v xs.length cells ho b h63 hby (Nat.zero_le _)
 have hblk := append_block_str hT.desc hu hi hz1 h1' h2 ho h63 hby hrun
 refine Stp.run (v := v') (W' := W') ?_ (k v' W' ?_)
 ·simp only [execOp, resolve, invoke, builtin, Sem.run_bind, Sem.run_pure, Result.andThen_ok, map_toArray, map_cons, map_nil, hs, hx, hrun]
 have hl : (xs ++ b.data.toList).length = xs.length + b.size := by rw [length_append]; rfl
 have hn : Elems W' (strCells b) b.data.toList [] := nH b.data.toList
 have hrow : (Res.row e v' (xs ++ b.data.toList) []).holds W' := by
  refine ⟨⟨cells ++ strCells b, by rw [hl]; exact ho', ?_⟩, fun b hb => by cases hb⟩
  have := (he.loc hg.size (fun b hb => by cases hb)).append hn
  simpa using this
 have hst2 : St w0 W (Res.row e v xs [] :: rs) := hst
 refine hst2.turn hg.os hg.tape hg.output hg.size (fun k hk hne => hg.block k hk (fun e => hne (by simp [Res.row, ← e]))) hrow ?_ ?_
 ·show (v'.ownBlock.toList ++ []).Nodup
  cases v'.ownBlock <;> simp
 intro c hc
 have hc : c ∈ v'.ownBlock.toList ++ [] := hc
 rw [append_nil] at hc
 have hc' : v'.ownBlock = some c := by simpa using hc
 rcases hblk c hc' with h | h
 ·exact .inl (by show c ∈ v.ownBlock.toList ++ []; simp [h])
 exact .inr h
end
section
variable {P : Program} {A : Type} {R : A → Prop}
def abT (P : Program) {A : Type} {R : A → Prop} (s : S) (t t' : TypeId) (c u : Sc) (d : D P R) (K : SV → S → D P R → Tr) : Tr :=
 match d with
 | .bs xs b _ _ k => .e0 u.val (.string b) <| .e0 (P.underlying t') (some .string) <| .e0 ((P.info? (elT P t)).bind (·.zero)) (some (.int .u8 0)) <|
   aJ3 P s t c (inferInstance : Shape UInt8) xs 1 fun j e O nx => .fn fun g : Hd => K (one (.rf j g)) ⟨s.E, (j, .row (inferInstance : Shape UInt8) e g (xs ++ b.data.toList) []) :: O, lasting s.B, nx⟩ k
 | _ => .no
theorem abT_ok {w0 W : World} {s : S} {t t' : TypeId} {x y : Operand} {c u : Sc} {dd : D P R} {K : SV → S → D P R → Tr} {n : Nat} {f : Nat → Value} {Q : Exit → Act → World → Prop} {KK : Value → World → Prop} {d : Option Tmp} {ty : TypeId} {pos : String} {af : Array Go.Edge} {g : Option (Nat × Bool)}
  (hx : ev n f x = c.val) (hy : ev n f y = u.val) (h : (abT P s t t' c u dd K).holds) (st : St w0 W s.rs) (fa : Facts w0 W s.B) (k : ∀ v s' d' W', (K v s' d').holds → s'.E = s.E → St w0 W' s'.rs → Facts w0 W' s'.B → KK v.val W') :
  Stp P n ⟨d, .call { callee := .builtin .append, args := #[x, y], argTypes := #[t, t'] }, ty, pos, af, g⟩ f W Q KK := by
 unfold abT at h
 split at h
 ·next xs b h63 hby kk =>
  obtain ⟨h1, h2, h3, h⟩ := h
  refine wE h st fun j e O nx fe h hT st2 => ?_
  have he : elT P t = e := by unfold elT; rw [hT.desc]
  have hfe : fe = [] := by
   obtain ⟨⟨cells, _, he⟩, _⟩ := st2.get 0 rfl
   have hp : ∀ {xs : List UInt8} {cells : List Value} {fp : List Nat}, Elems W cells xs fp → fp = [] := by
    intro xs
    induction xs with
    | nil => exact fun h => h.2
    | cons x xs ih =>
     rintro cells fp ⟨cs, rest, f1, f2, g1, g2, g3, g4⟩
     have h5 : f1 = [] := g2.2.1
     rw [g4, h5, ih g3]; rfl
   exact hp he
  subst hfe
  refine stp_append_str hT h2 (by rw [← he]; exact h3) hx (hy.trans h1) st2 h63 hby fun v' W' st' => ?_
  have hs := cN (st'.get 0 rfl)
  obtain ⟨hd, rfl, hn⟩ := hs.hd
  exact k _ _ _ W' (h hd) rfl st' fa.lasting
 exact h.elim
end
end Go.Proofs.YtanpcpoogkdlaaaGreat
namespace Go.Proofs.YtanpcpoogkdlaaaGreat
set_option linter.unusedSimpArgs false
set_option linter.unusedVariables false
set_option maxHeartbeats 1000000
set_option maxHeartbeats 2000000
open Go.RowKit Go.Proofs.Tryz List
section
variable {P : Program} {A : Type} {R : A → Prop}
theorem split3 (cs : List Sc) (o m : Nat) : cs = cs.take o ++ ((cs.drop o).take m ++ cs.drop (o + m)) := by
 rw [← drop_drop, take_append_drop, take_append_drop]
def cmT (s : S) (lk : Operand → Option SV) (F : FuncId) (xs : List Operand) (d : D P R) (K : SV → S → D P R → Tr) : Tr :=
 nrm d fun d => match d with
  | .cm (ps := ps) (i := i) (x := x) (R' := R') (y := y) (rk := rk) F' (fn := fn) _ _ _ k => .e0 F F' <| .e0 ((fn.name == "runtime.NumGoroutine") || fn.body.isNone) false <| opt (lkv lk xs) fun us => match us with
   | .on (.ce (.pt j b q o)) :: us => match lku s.O j with
    | some (.bx b' pre cs post t) => .e0 b b' <| .e0 q pre.length <| .e0 (Nat.ble (o + (i.lv x).length) cs.length) true <|
      jN (dT s.O j) ((cs.drop o).take (i.lv x).length) (i.lv x) fun O' => lA ⟨[], [], lasting s.B, 0⟩ us ps <|
      .fn fun a => .fp (R' a) fun ha => xU (i.lv (y a)) ⟨s.E, O', lasting s.B, s.nx⟩ fun scs s2 => .fp (lns (i.lv (y a))) fun hn => rkb (rk a) ⟨s2.E, (j, .bx b' pre (cs.take o ++ (scs ++ cs.drop (o + (i.lv x).length))) post t) :: s2.O, s2.B, s2.nx⟩ fun ts s3 => .fp (gds (rk a)) fun hg => K (aC5 ts) s3 (k a ha hn hg)
    | _ => .no
   | _ => .no
  | _ => .no
theorem Facts.base {w0 W : World} : ∀ {B : List (Nat × Bool × Bo)}, Facts w0 W B → Facts w0 w0 (Go.Proofs.YtanpcpoogkdlaaaGreat.lasting B) := fun h => h.lasting
theorem cmT_ok {w0 W : World} {s : S} {lk : Operand → Option SV} {F : FuncId} {xs : List Operand} {ats : Array TypeId} {dd : D P R} {K : SV → S → D P R → Tr} {n : Nat} {f : Nat → Value} {Q : Exit → Act → World → Prop} {KK : Value → World → Prop} {d : Option Tmp} {ty : TypeId} {pos : String} {af : Array Go.Edge} {g : Option (Nat × Bool)}
  (hl : ∀ x u, lk x = some u → ev n f x = u.val) (h : (cmT s lk F xs dd K).holds) (st : St w0 W s.rs) (fa : Facts w0 W s.B) (k : ∀ v s' d' W', (K v s' d').holds → s'.E = s.E → St w0 W' s'.rs → Facts w0 W' s'.B → KK v.val W') : Stp P n ⟨d, .call { callee := .value (.func F), args := xs.toArray, argTypes := ats }, ty, pos, af, g⟩ f W Q KK := by
 unfold cmT at h
 refine dZ h fun d' h1 => ?_
 clear h
 split at h1
 ·next ps α i x A' R' y rk F' fn hf hct hg kk =>
  obtain ⟨rfl, ho, h1⟩ := h1
  refine aW h1 fun us hus h2 => ?_
  clear h1
  split at h2
  ·next j b q o us' =>
   split at h2
   ·next b' pre cs post t hj =>
    obtain ⟨rfl, rfl, hle, h3⟩ := h2
    have st1 : St w0 W (Or s.O ++ []) := by simpa [Or, S.rs] using st
    have st2 := st1.take hj
    have st3 : St w0 W (Or (dT s.O j) ++ [Res.bx b (pre ++ cs.map Sc.val ++ post) t]) := by
     have : St w0 W (Res.bx b (pre ++ cs.map Sc.val ++ post) t :: (Or (dT s.O j) ++ [])) := st2
     rw [append_nil] at this
     exact this.perm perm_append_comm
    refine eN h3 st3 fun O' fp h4 st4 => ?_
    obtain ⟨hp, h5⟩ := kZ (s := ⟨[], [], lasting s.B, 0⟩) (w0 := w0) (W := w0) (St.start w0) fa.base h4 hg
    have hlen : ((cs.drop o).take (i.lv x).length).length = (i.lv x).length := by
     have := Nat.le_of_ble_eq_true hle
     rw [length_take, length_drop]; omega
    have hto : (cs.take o).length = o := by
     have := Nat.le_of_ble_eq_true hle
     rw [length_take]; omega
    have e1 : pre ++ cs.map Sc.val ++ post = (pre ++ (cs.take o).map Sc.val) ++ ((cs.drop o).take (i.lv x).length).map Sc.val ++ ((cs.drop (o + (i.lv x).length)).map Sc.val ++ post) := by
     conv => lhs; rw [split3 cs o (i.lv x).length]
     simp [map_append, append_assoc]
    have e2 : (pre ++ (cs.take o).map Sc.val).length = pre.length + o := by rw [length_append, length_map, hto]
    have st5 : St w0 W (Res.bx b ((pre ++ (cs.take o).map Sc.val) ++ ((cs.drop o).take (i.lv x).length).map Sc.val ++ ((cs.drop (o + (i.lv x).length)).map Sc.val ++ post)) t :: Res.pc (((cs.drop o).take (i.lv x).length).map Sc.val) (i.lv x) fp :: Or O') := by
     rw [← e1]
     refine st4.perm ((perm_append_comm (l₁ := [Res.bx b (pre ++ cs.map Sc.val ++ post) t]) (l₂ := Res.pc (((cs.drop o).take (i.lv x).length).map Sc.val) (i.lv x) fp :: Or O')).trans ?_)
     exact List.Perm.refl _
    have hc := hct.run w0 W b _ _ t _ fp (us'.map SV.val) _ st5 hp
    rw [e2] at hc
    refine iP hf ho (sF hl hus) (hc.mono ?_)
    rintro e W' ⟨a, vs, cs', fp', rr, ha, rfl, hr, st6⟩
    have h6 := h5 a ha
    have st7 : St w0 W' (Res.pc cs' (i.lv (y a)) fp' :: ((Res.bx b ((pre ++ (cs.take o).map Sc.val) ++ cs' ++ ((cs.drop (o + (i.lv x).length)).map Sc.val ++ post)) t :: rr) ++ Or O')) := st6.swap
    refine nD (s := ⟨s.E, O', lasting s.B, s.nx⟩) h6 st7 fun scs s2 h7 e3 e4 e5 _ st8 hn => ?_
    have h8 := h7 hn
    have e9 : (pre ++ (cs.take o).map Sc.val) ++ cs' ++ ((cs.drop (o + (i.lv x).length)).map Sc.val ++ post) = pre ++ (cs.take o ++ (scs ++ cs.drop (o + (i.lv x).length))).map Sc.val ++ post := by
     rw [← e3]; simp [map_append, append_assoc]
    have st9 : St w0 W' (rr ++ S.rs ⟨s2.E, (j, .bx b pre (cs.take o ++ (scs ++ cs.drop (o + (i.lv x).length))) post t) :: s2.O, s2.B, s2.nx⟩) := by
     rw [e9] at st8
     exact st8.perm (perm_middle (a := (Ob.bx b pre (cs.take o ++ (scs ++ cs.drop (o + (i.lv x).length))) post t).res) (l₁ := rr) (l₂ := s2.rs))
    refine lU h8 hr st9 fun ts s3 h9 e6 e7 e8 _ st10 hgd => ?_
    have fa3 : Facts w0 W' s3.B := by
     rw [e8]
     show Facts w0 W' s2.B
     rw [e5]
     exact fa.lasting
    exact ⟨_, rfl, by rw [← e6, ← pQ]; exact k _ s3 _ W' (h9 hgd) (e7.trans e4) st10 fa3⟩
   exact h2.elim
  exact h2.elim
 exact h1.elim
def ctk : List (Nat × Ob) → List Sc → List Lr → (List (Nat × Ob) → Tr) → Tr
 | O, [], [], K => K O
 | O, c :: cs, .v x :: ls, K => .e0 c.val x (ctk O cs ls K)
 | O, c :: cs, .o i xs :: ls, K => jN O [c] [.s _ i xs] fun O' => ctk O' cs ls K
 | O, c :: cs, .r i e xs :: ls, K => match c with
  | .rf j h => match lku O j with
   | some (.row i' e' h' xs' _) => .e0 e' e <| .e0 h h' <| .e1 (⟨i', xs'⟩ : Dat) ⟨i, xs⟩ (ctk (dT O j) cs ls K)
   | _ => .no
  | _ => .no
 | _, _, _, _ => .no
theorem sP {w0 W : World} : ∀ {cs : List Sc} {ls : List Lr} {O : List (Nat × Ob)} {K : List (Nat × Ob) → Tr} {rs : List Res}, (ctk O cs ls K).holds → St w0 W (Or O ++ rs) → ∃ r O', (K O').holds ∧ LvR (cs.map Sc.val) ls r ∧ St w0 W (Or O' ++ (r ++ rs))
 | [], [], O, K, rs, h, st => ⟨[], O, h, rfl, st⟩
 | [], .v _ :: _, O, K, rs, h, st => h.elim
 | [], .o _ _ :: _, O, K, rs, h, st => h.elim
 | [], .r _ _ _ :: _, O, K, rs, h, st => h.elim
 | _ :: _, [], O, K, rs, h, st => h.elim
 | c :: cs, .v x :: ls, O, K, rs, h, st => by
  obtain ⟨h1, h2⟩ := h
  obtain ⟨r, O', hK, h3, h4⟩ := sP h2 st
  exact ⟨r, O', hK, ⟨h1, h3⟩, h4⟩
 | c :: cs, .o i xs :: ls, O, K, rs, h, st => by
  refine eN h st fun O' fp h' st' => ?_
  obtain ⟨f1, f2, st2⟩ := St.s_pc st'
  obtain ⟨r, O2, hK, h3, h4⟩ := sP h' (rs := Res.own c.val xs f1 :: rs) (st2.d0.perm perm_middle)
  refine ⟨Res.own c.val xs f1 :: r, O2, hK, ⟨f1, r, rfl, h3⟩, ?_⟩
  exact h4.perm ((perm_middle (a := Res.own c.val xs f1) (l₁ := r) (l₂ := rs)).symm.append_left (Or O2))
 | c :: cs, .r i e xs :: ls, O, K, rs, h, st => by
  unfold ctk at h
  split at h
  ·next j hd =>
   split at h
   ·next i' e' h' xs' fe hj =>
    obtain ⟨rfl, rfl, h4, h5⟩ := h
    simp only [Dat.mk.injEq] at h4
    obtain ⟨rfl, h6, h7⟩ := h4
    obtain ⟨rfl, rfl⟩ := And.intro (eq_of_heq h6) (eq_of_heq h7)
    obtain ⟨r, O2, hK, h3, h8⟩ := sP h5 (rs := Res.row e' hd.val xs' fe :: rs) ((st.take hj).perm perm_middle)
    refine ⟨Res.row e' hd.val xs' fe :: r, O2, hK, ⟨fe, r, rfl, h3⟩, ?_⟩
    exact h8.perm ((perm_middle (a := Res.row e' hd.val xs' fe) (l₁ := r) (l₂ := rs)).symm.append_left (Or O2))
   ·exact h.elim
  ·exact h.elim
def coT (s : S) (lk : Operand → Option SV) (F : FuncId) (xs : List Operand) (d : D P R) (K : SV → S → D P R → Tr) : Tr :=
 nrm d fun d => match d with
  | .co (ps := ps) (ow := ow) (ag := ag) (R' := R') (rk := rk) F' (fn := fn) _ _ _ k => .e0 F F' <| .e0 ((fn.name == "runtime.NumGoroutine") || fn.body.isNone) false <| opt (lkv lk xs) fun us => match ag, us with
   | true, .on (.ag l) :: us => ctk s.O l ow fun O' => lA ⟨[], [], lasting s.B, 0⟩ us ps <| .fn fun a => .fp (R' a) fun ha => rkb (rk a) ⟨s.E, O', lasting s.B, s.nx⟩ fun ts s3 => .fp (gds (rk a)) fun hg => K (aC5 ts) s3 (k a ha hg)
   | false, .on (.ce c) :: us => ctk s.O [c] ow fun O' => lA ⟨[], [], lasting s.B, 0⟩ us ps <| .fn fun a => .fp (R' a) fun ha => rkb (rk a) ⟨s.E, O', lasting s.B, s.nx⟩ fun ts s3 => .fp (gds (rk a)) fun hg => K (aC5 ts) s3 (k a ha hg)
   | _, _ => .no
  | _ => .no
theorem coT_ok {w0 W : World} {s : S} {lk : Operand → Option SV} {F : FuncId} {xs : List Operand} {ats : Array TypeId} {dd : D P R} {K : SV → S → D P R → Tr} {n : Nat} {f : Nat → Value} {Q : Exit → Act → World → Prop} {KK : Value → World → Prop} {d : Option Tmp} {ty : TypeId} {pos : String} {af : Array Go.Edge} {g : Option (Nat × Bool)}
  (hl : ∀ x u, lk x = some u → ev n f x = u.val) (h : (coT s lk F xs dd K).holds) (st : St w0 W s.rs) (fa : Facts w0 W s.B) (k : ∀ v s' d' W', (K v s' d').holds → s'.E = s.E → St w0 W' s'.rs → Facts w0 W' s'.B → KK v.val W') : Stp P n ⟨d, .call { callee := .value (.func F), args := xs.toArray, argTypes := ats }, ty, pos, af, g⟩ f W Q KK := by
 unfold coT at h
 refine dZ h fun d' h1 => ?_
 clear h
 split at h1
 ·next ps ow ag A' R' rk F' fn hf hct hg kk =>
  obtain ⟨rfl, ho, h1⟩ := h1
  refine aW h1 fun us hus h2 => ?_
  clear h1
  have key : ∀ {l : List Sc} {us' : List SV} (hv : us.map SV.val = cond ag (.agg (l.map Sc.val).toArray) ((l.map Sc.val).headD undef) :: us'.map SV.val) (h3 : (ctk s.O l ow fun O' => lA ⟨[], [], lasting s.B, 0⟩ us' ps <| .fn fun a => .fp (R' a) fun ha => rkb (rk a) ⟨s.E, O', lasting s.B, s.nx⟩ fun ts s3 => .fp (gds (rk a)) fun hg => K (aC5 ts) s3 (kk a ha hg)).holds), Stp P n ⟨d, .call { callee := .value (.func F), args := xs.toArray, argTypes := ats }, ty, pos, af, g⟩ f W Q KK := by
   intro l us' hv h3
   have st1 : St w0 W (Or s.O ++ []) := by simpa [Or, S.rs] using st
   obtain ⟨r, O', h4, hlv, st2⟩ := sP h3 st1
   obtain ⟨hp, h5⟩ := kZ (s := ⟨[], [], lasting s.B, 0⟩) (w0 := w0) (W := w0) (St.start w0) fa.base h4 hg
   have st3 : St w0 W (r ++ Or O') := by
    rw [append_nil] at st2
    exact st2.perm perm_append_comm
   have hc := hct.run w0 W _ r (us'.map SV.val) (Or O') hlv st3 hp
   rw [← hv] at hc
   refine iP hf ho (sF hl hus) (hc.mono ?_)
   rintro e W' ⟨a, vs, rr, ha, rfl, hr, st4⟩
   refine lU (s := ⟨s.E, O', lasting s.B, s.nx⟩) (h5 a ha) hr st4 fun ts s3 h9 e6 e7 e8 _ st10 hgd => ?_
   have fa3 : Facts w0 W' s3.B := by
    rw [e8]
    exact fa.lasting
   exact ⟨_, rfl, by rw [← e6, ← pQ]; exact k _ s3 _ W' (h9 hgd) e7 st10 fa3⟩
  split at h2
  ·exact key rfl h2
  ·exact key rfl h2
  exact h2.elim
 exact h1.elim
/-! ### Elements that are lent -/
theorem St.lendG {α : Type} (i : Dsh α) (hp : Nat.ble 1 i.size = true) {w0 W : World} {rs : List Res} {v : Value} {xs : List α} {fp : List Nat} (h : St w0 W (@Res.own (List α) (@instShapeList α i.toShape) _ v xs fp :: rs)) {n : Nat} {x : α} (hi : xs[n]? = some x) :
  ∃ b e pre cs post fi fr, i.good x ∧ St w0 W (Res.pc cs (i.lv x) fi :: (Res.bx b (pre ++ cs ++ post) e :: @Res.rest α i.toShape v b pre post xs n fr :: rs)) := by
 obtain ⟨b, e, pre, cs, post, fi, fr, _, hc, st⟩ := St.lendx (Nat.le_of_ble_eq_true hp) h hi
 obtain ⟨st2, hg⟩ := St.cs_pc i st.f1
 exact ⟨b, e, pre, cs, post, fi, fr, hg, st2⟩
theorem St.giveG {α : Type} (i : Dsh α) {w0 W : World} {rs : List Res} {v : Value} {xs : List α} {b n : Nat} {e : TypeId} {pre cs post : List Value} {y : α} {fi fr : List Nat} (hg : i.good y)
  (h : St w0 W (Res.pc cs (i.lv y) fi :: (Res.bx b (pre ++ cs ++ post) e :: @Res.rest α i.toShape v b pre post xs n fr :: rs))) : ∃ fp, St w0 W (@Res.own (List α) (@instShapeList α i.toShape) _ v (xs.set n y) fp :: rs) :=
 St.give (St.pc_cs i h hg).swap
def leT {α : Type} (i : Dsh α) (j : Nat) (xs : List α) (n : Nat) (x : α) (s : S) (K : i.good x → S → Tr) : Tr :=
 match lku s.O j with
 | some (.own i' h xs' _) => .e1 (⟨i', xs'⟩ : Dat) ⟨i.toShape, xs⟩ <| .e0 (Nat.ble 1 i.size) true <| .fn fun G : (Nat × TypeId × List Value) × (List Value × List Nat) =>
   xU (i.lv x) ⟨s.E, (j, .rs i.toShape h G.1.1 G.1.2.2 G.2.1 xs n G.2.2 s.nx) :: dT s.O j, s.B, s.nx + 1⟩ fun scs s2 => .fp (i.good x) fun hg => K hg ⟨s2.E, (s.nx, .bx G.1.1 G.1.2.2 scs G.2.1 G.1.2.1) :: s2.O, s2.B, s2.nx⟩
 | _ => .no
theorem leT_ok {G : Prop} {α : Type} {i : Dsh α} {j : Nat} {xs : List α} {n : Nat} {x : α} (hx : xs[n]? = some x) {s : S} {K : i.good x → S → Tr} {w0 W : World} {f : Nat → Value} (h : (leT i j xs n x s K).holds) (den : Den w0 s f W)
  (k : ∀ hg s', (K hg s').holds → Den w0 s' f W → G) : G := by
 unfold leT at h
 split at h
 ·next i' h' xs' fp hj =>
  obtain ⟨h1, h2, h3⟩ := h
  simp only [Dat.mk.injEq] at h1
  obtain ⟨rfl, h5, h6⟩ := h1
  obtain ⟨rfl, rfl⟩ := And.intro (eq_of_heq h5) (eq_of_heq h6)
  have st1 : St w0 W (Or s.O ++ []) := by simpa [Or, S.rs] using den.st
  obtain ⟨b, e, pre, cs, post, fi, fr, hg, st2⟩ := St.lendG i h2 (st1.take hj) hx
  rw [append_nil] at st2
  refine nD (rs := [Res.bx b (pre ++ cs ++ post) e]) (h3 ((b, e, pre), (post, fr))) st2 fun scs s2 h4 e1 e2 e3 _ st3 hn => k hg _ (h4 hg) ⟨by rw [e2]; exact den.fr, ?_, by rw [e3]; exact den.fa⟩
  rw [← e1] at st3
  exact st3
 exact h.elim
def giT {α : Type} (i : Dsh α) (j : Nat) (xs : List α) (y : α) (s : S) (K : S → Tr) : Tr :=
 match lku s.O j with
 | some (.rs i' h b pre post xs' n _ r) => .e1 (⟨i', xs'⟩ : Dat) ⟨i.toShape, xs⟩ <| match lku (dT s.O j) r with
  | some (.bx b' pre' cs post' _) => .e0 b' b <| .e0 pre' pre <| .e0 post' post <| jN (dT (dT s.O j) r) cs (i.lv y) fun O' => .fn fun fp : List Nat => K ⟨s.E, (j, .own i.toShape h (xs.set n y) fp) :: O', s.B, s.nx⟩
  | _ => .no
 | _ => .no
theorem giT_ok {G : Prop} {α : Type} {i : Dsh α} {j : Nat} {xs : List α} {y : α} (hy : i.good y) {s : S} {K : S → Tr} {w0 W : World} {f : Nat → Value} (h : (giT i j xs y s K).holds) (den : Den w0 s f W)
  (k : ∀ s', (K s').holds → Den w0 s' f W → G) : G := by
 unfold giT at h
 split at h
 ·next i' h' b pre post xs' n fr r hj =>
  obtain ⟨h1, h2⟩ := h
  simp only [Dat.mk.injEq] at h1
  obtain ⟨rfl, h5, h6⟩ := h1
  obtain ⟨rfl, rfl⟩ := And.intro (eq_of_heq h5) (eq_of_heq h6)
  split at h2
  ·next b' pre' cs post' t hr =>
   obtain ⟨rfl, rfl, rfl, h3⟩ := h2
   have st1 : St w0 W (Or s.O ++ []) := by simpa [Or, S.rs] using den.st
   have st2 := st1.take hj
   have st3 : St w0 W (Or (dT s.O j) ++ [@Res.rest _ i.toShape h'.val b' pre' post' xs' n fr]) := by
    refine st2.perm ?_
    rw [append_nil]
    exact perm_append_comm (l₁ := Or (dT s.O j)) (l₂ := [_])
   have st4 := st3.take hr
   have st5 : St w0 W (Or (dT (dT s.O j) r) ++ [Res.bx b' (pre' ++ cs.map Sc.val ++ post') t, @Res.rest _ i.toShape h'.val b' pre' post' xs' n fr]) :=
    st4.perm (perm_middle (a := Res.bx b' (pre' ++ cs.map Sc.val ++ post') t))
   refine eN h3 st5 fun O' fp h4 st6 => ?_
   have st7 : St w0 W (Res.pc (cs.map Sc.val) (i.lv y) fp :: (Res.bx b' (pre' ++ cs.map Sc.val ++ post') t :: @Res.rest _ i.toShape h'.val b' pre' post' xs' n fr :: Or O')) :=
    st6.perm ((perm_append_comm (l₁ := [Res.bx b' (pre' ++ cs.map Sc.val ++ post') t, @Res.rest _ i.toShape h'.val b' pre' post' xs' n fr]) (l₂ := Or O')).cons _)
   obtain ⟨fp2, st8⟩ := St.giveG i hy st7
   exact k _ (h4 fp2) ⟨den.fr, st8, den.fa⟩
  exact h2.elim
 exact h.elim
end
end Go.Proofs.YtanpcpoogkdlaaaGreat
namespace Go.Proofs.YtanpcpoogkdlaaaGreat
set_option linter.unusedSimpArgs false
set_option linter.unusedVariables false
set_option maxHeartbeats 1000000
set_option maxHeartbeats 2000000
open Go.RowKit Go.Proofs.Tryz List

section
variable {P : Program} {A : Type} {R : A → Prop}
def opd (n : Nat) (s : S) : Operand → Option SV
 | .tmp t => cond (Nat.ble (t + 1) n) (lku s.E t) none
 | .const v => some (one (.vl v))
 | .global _ => none
 | .func g => some (one (.vl (.func (.func g) #[] #[])))
theorem aD5 {n : Nat} {s : S} {f : Nat → Value} (h : Fr s.E f) (x : Operand) (u : SV) (e : opd n s x = some u) : ev n f x = u.val := by
 cases x with
 | tmp t =>
  simp only [opd] at e
  cases hb : Nat.ble (t + 1) n with
  | true => rw [hb] at e; simp only [ev, hb, cond_true]; exact h t u e
  | false => rw [hb] at e; cases e
 | const v => simp only [opd, Option.some.injEq] at e; subst e; rfl
 | global g => cases e
 | func g => simp only [opd, Option.some.injEq] at e; subst e; rfl
def prp : D P R → S → (S → D P R → Tr) → Tr
 | .ex (p := p) _ k, s, K => .fn fun x => .fp (p x) fun hx => prp (k x hx) s K
 | .oc (p := p) (q := q) _ a b, s, K => .an (.fp p fun h => prp (a h) s K) (.fp q fun h => prp (b h) s K)
 | .ab _, _, _ => .ok
 | .rw i j xs ys _ k, s, K => match lku s.O j with
  | some (.own i' h xs' fp) => .e1 (⟨i', xs'⟩ : Dat) ⟨i, xs⟩ (prp k ⟨s.E, (j, .own i h ys fp) :: dT s.O j, s.B, s.nx⟩ K)
  | some (.row i' e h xs' fe) => .e1 (⟨i', xs'⟩ : Dat) ⟨i, xs⟩ (prp k ⟨s.E, (j, .row i e h ys fe) :: dT s.O j, s.B, s.nx⟩ K)
  | _ => .no
 | .rv t x (y := y) _ k, s, K => match lku s.E t with
  | some v => .e0 v.val y (prp k ⟨(t, one (.vl x)) :: s.E, s.O, s.B, s.nx⟩ K)
  | none => .no
 | .rd i r j xs n _ k, s, K => match lku s.B (r + 2000000), wN s j with
  | some (_, .dv h2 h1 a sz), some (l, h', d) => .e0 h' h1 <| .e0 a n <| .e0 sz i.size <| .e1 d ⟨i, xs⟩ <| .fn fun fp : List Nat => prp k ⟨s.E, s.O, (r, l, .sl i h2 (xs.drop n) fp) :: s.B, s.nx⟩ K
  | _, _ => .no
 | .li i t ys hne hl hg k, s, K => match lku s.E t with
  | some (.on (.ce (.lt j b n))) => match lku s.O j with
   | some (.bx b' pre cs post _) => .e0 b b' <| .e0 pre [] <| .e0 post [] <| .e0 n ys.length <| jN (dT s.O j) cs (lvs i ys) fun O' => .fn fun fp : List Nat =>
     prp k ⟨(t, one (.rf j ⟨some ⟨b, 0, none⟩, ys.length, ys.length⟩)) :: s.E, (j, .own i.toShape ⟨some ⟨b, 0, none⟩, ys.length, ys.length⟩ ys (b :: fp)) :: O', s.B, s.nx⟩ K
   | _ => .no
  | _ => K s (.li i t ys hne hl hg k)
 | .lr i hp t ys hl hg k, s, K => match lku s.E t with
  | some (.on (.ce (.lt j b n))) => match lku s.O j with
   | some (.bx b' pre cs post te) => .e0 b b' <| .e0 pre [] <| .e0 post [] <| .e0 n ys.length <| jN (dT s.O j) cs (lvs i ys) fun O' => 
     prp k ⟨(t, one (.rf j ⟨some ⟨b, 0, none⟩, ys.length, ys.length⟩)) :: s.E, (j, .row i.toShape te ⟨some ⟨b, 0, none⟩, ys.length, ys.length⟩ ys []) :: O', s.B, s.nx⟩ K
   | _ => .no
  | _ => K s (.lr i hp t ys hl hg k)
 | .lj i r o ys hne hl hg k, s, K => match lku s.O r with
  | some (.bx b0 pre0 cs0 post0 t0) => match cs0[o]? with
   | some (.lt j b n) => match lku (dT s.O r) j with
    | some (.bx b' pre cs post _) => .e0 b b' <| .e0 pre [] <| .e0 post [] <| .e0 n ys.length <| jN (dT (dT s.O r) j) cs (lvs i ys) fun O' => .fn fun fp : List Nat =>
      prp k ⟨s.E, (j, .own i.toShape ⟨some ⟨b, 0, none⟩, ys.length, ys.length⟩ ys (b :: fp)) :: (r, .bx b0 pre0 (cs0.set o (.rf j ⟨some ⟨b, 0, none⟩, ys.length, ys.length⟩)) post0 t0) :: O', s.B, s.nx⟩ K
    | _ => .no
   | _ => .no
  | _ => .no
 | .sh j k, s, K => match lku s.O j with
  | some (.row i _ h xs _) => .fn fun fp : List Nat => prp k ⟨s.E, (j, .own i h xs fp) :: dT s.O j, s.B, s.nx⟩ K
  | _ => .no
 | .r0 i e k, s, K => prp k ⟨s.E, (s.nx, .row i e ⟨none, 0, 0⟩ [] []) :: s.O, s.B, s.nx + 1⟩ K
 | .rn i e t k, s, K => match lku s.E t with
  | some (.on (.ce (.vl (.slice none 0 0)))) => prp k ⟨(t, one (.rf s.nx ⟨none, 0, 0⟩)) :: s.E, (s.nx, .row i e ⟨none, 0, 0⟩ [] []) :: s.O, s.B, s.nx + 1⟩ K
  | _ => K s (.rn i e t k)
 | .le i j xs n x hx k, s, K => match lku s.O j with
  | some _ => leT i j xs n x s fun hg s => prp (k hg) s K
  | none => K s (.le i j xs n x hx k)
 | .gi i j xs y _ k, s, K => giT i j xs y s fun s => prp k s K
 | .wt t k, s, K => match lku s.E t with
  | some _ => prp k s K
  | none => K s (.wt t k)
 | d, s, K => K s d
theorem kS {G : Prop} {w0 : World} {f : Nat → Value} {W : World} : ∀ {d : D P R} {s : S} {K : S → D P R → Tr}, (prp d s K).holds → Den w0 s f W → (∀ s' d', (K s' d').holds → Den w0 s' f W → G) → G := by
 intro d
 induction d with
 | ex h k ih =>
  intro s K hh den kk
  obtain ⟨x, hx⟩ := h
  exact ih x hx (hh x hx) den kk
 | oc h a b iha ihb =>
  intro s K hh den kk
  rcases h with h | h
  ·exact iha h (hh.1 h) den kk
  exact ihb h (hh.2 h) den kk
 | ab h => exact fun _ _ _ => h.elim
 | rw i j xs ys he k ih =>
  intro s K hh den kk
  subst he
  unfold prp at hh
  split at hh
  ·next i' h xs' fp hj =>
   obtain ⟨h4, hh⟩ := hh
   simp only [Dat.mk.injEq] at h4
   obtain ⟨rfl, h5, h6⟩ := h4
   obtain ⟨rfl, rfl⟩ := And.intro (eq_of_heq h5) (eq_of_heq h6)
   refine ih hh ⟨den.fr, ?_, den.fa⟩ kk
   have := St.take (rs := []) (by simpa [Or, S.rs] using den.st) hj
   simpa [Or, S.rs] using this
  ·next i' te h xs' fp hj =>
   obtain ⟨h4, hh⟩ := hh
   simp only [Dat.mk.injEq] at h4
   obtain ⟨rfl, h5, h6⟩ := h4
   obtain ⟨rfl, rfl⟩ := And.intro (eq_of_heq h5) (eq_of_heq h6)
   refine ih hh ⟨den.fr, ?_, den.fa⟩ kk
   have := St.take (rs := []) (by simpa [Or, S.rs] using den.st) hj
   simpa [Or, S.rs] using this
  exact hh.elim
 | rv t x he k ih =>
  intro s K hh den kk
  subst he
  unfold prp at hh
  split at hh
  ·next v hv =>
   obtain ⟨h1, hh⟩ := hh
   exact ih hh ⟨den.fr.know t _ ((den.fr t v hv).trans h1), den.st, den.fa⟩ kk
  exact hh.elim
 | rd i r j xs n hn k ih =>
  intro s K hh den kk
  unfold prp at hh
  split at hh
  ·next l0 h2 h1 a sz l h' d hB hS =>
   obtain ⟨rfl, rfl, rfl, rfl, h3⟩ := hh
   have hdv := den.fa _ (mA hB)
   have hdv : h2.val = sliced h'.ao a h'.n h'.cap i.size := by
    cases l0 <;> exact hdv
   obtain ⟨fp, hs⟩ := kJ hS den.st den.fa
   obtain ⟨g, hs', _⟩ := aL8 hs hn
   refine ih (h3 g) ⟨den.fr, den.st, fun e he => ?_⟩ kk
   rcases mem_cons.1 he with rfl | he
   ·show Sl _ h2.val _ _
    rw [hdv]
    exact hs'
   exact den.fa e he
  exact hh.elim
 | li i t ys hne hl hg k ih =>
  intro s K hh den kk
  unfold prp at hh
  split at hh
  ·next j b n hE =>
   split at hh
   ·next b' pre cs post t' hj =>
    obtain ⟨rfl, rfl, rfl, rfl, h3⟩ := hh
    have st1 : St w0 W (Or s.O ++ []) := by simpa [Or, S.rs] using den.st
    have st2 := st1.take hj
    have st3 : St w0 W (Or (dT s.O j) ++ [Res.bx b (cs.map Sc.val) t']) := by
     have h4 : St w0 W (Res.bx b ([] ++ cs.map Sc.val ++ []) t' :: (Or (dT s.O j) ++ [])) := st2
     rw [append_nil, append_nil, nil_append] at h4
     exact h4.perm (perm_append_comm (l₁ := Or (dT s.O j)) (l₂ := [_]))
    refine eN h3 st3 fun O' fp h5 st4 => ?_
    have st5 : St w0 W (Res.bx b (cs.map Sc.val) t' :: Res.pc (cs.map Sc.val) (lvs i ys) fp :: Or O') := by
     refine st4.perm ((List.Perm.swap _ _ _).trans ?_)
     exact (perm_append_comm (l₁ := [Res.bx b (cs.map Sc.val) t']) (l₂ := Or O')).cons _
    have st6 := St.lit i hne hl hg st5
    refine ih (h5 fp) ⟨?_, st6, den.fa⟩ kk
    have e := den.fr t _ hE
    exact den.fr.know t _ e
   exact hh.elim
  exact kk _ _ hh den
 | lr i hp t ys hl hg k ih =>
  intro s K hh den kk
  unfold prp at hh
  split at hh
  ·next j b n hE =>
   split at hh
   ·next b' pre cs post t' hj =>
    obtain ⟨rfl, rfl, rfl, rfl, h3⟩ := hh
    have st1 : St w0 W (Or s.O ++ []) := by simpa [Or, S.rs] using den.st
    have st2 := st1.take hj
    have st3 : St w0 W (Or (dT s.O j) ++ [Res.bx b (cs.map Sc.val) t']) := by
     have h4 : St w0 W (Res.bx b ([] ++ cs.map Sc.val ++ []) t' :: (Or (dT s.O j) ++ [])) := st2
     rw [append_nil, append_nil, nil_append] at h4
     exact h4.perm (perm_append_comm (l₁ := Or (dT s.O j)) (l₂ := [_]))
    refine eN h3 st3 fun O' fp h5 st4 => ?_
    have st5 : St w0 W (Res.bx b (cs.map Sc.val) t' :: Res.pc (cs.map Sc.val) (lvs i ys) fp :: Or O') := by
     refine st4.perm ((List.Perm.swap _ _ _).trans ?_)
     exact (perm_append_comm (l₁ := [Res.bx b (cs.map Sc.val) t']) (l₂ := Or O')).cons _
    have st6 := St.litrow i hp hl hg st5
    refine ih h5 ⟨?_, st6, den.fa⟩ kk
    have e := den.fr t _ hE
    exact den.fr.know t _ e
   exact hh.elim
  exact kk _ _ hh den
 | lj i r o ys hne hl hg k ih =>
  intro s K hh den kk
  unfold prp at hh
  split at hh
  ·next b0 pre0 cs0 post0 t0 hr =>
   split at hh
   ·next j b n ho =>
    split at hh
    ·next b' pre cs post t' hj =>
     obtain ⟨rfl, rfl, rfl, rfl, h3⟩ := hh
     have st1 : St w0 W (Or s.O ++ []) := by simpa [Or, S.rs] using den.st
     have st2 := st1.take hr
     have st3 : St w0 W (Or (dT s.O r) ++ [(Ob.bx b0 pre0 cs0 post0 t0).res]) := by
      rw [append_nil] at st2
      exact st2.perm (perm_append_comm (l₁ := Or (dT s.O r)) (l₂ := [_]))
     have st4 := st3.take hj
     have st5 : St w0 W (Or (dT (dT s.O r) j) ++ [Res.bx b (cs.map Sc.val) t', (Ob.bx b0 pre0 cs0 post0 t0).res]) := by
      have h4 : St w0 W (Res.bx b ([] ++ cs.map Sc.val ++ []) t' :: (Or (dT (dT s.O r) j) ++ [(Ob.bx b0 pre0 cs0 post0 t0).res])) := st4
      rw [append_nil, nil_append] at h4
      exact h4.perm (perm_middle (a := Res.bx b (cs.map Sc.val) t') (l₁ := Or (dT (dT s.O r) j)) (l₂ := [(Ob.bx b0 pre0 cs0 post0 t0).res]))
     refine eN h3 st5 fun O' fp h5 st6 => ?_
     have st7 : St w0 W (Res.bx b (cs.map Sc.val) t' :: Res.pc (cs.map Sc.val) (lvs i ys) fp :: ((Ob.bx b0 pre0 cs0 post0 t0).res :: Or O')) := by
      refine st6.perm ((List.Perm.swap _ _ _).trans ?_)
      exact (perm_append_comm (l₁ := [Res.bx b (cs.map Sc.val) t', (Ob.bx b0 pre0 cs0 post0 t0).res]) (l₂ := Or O')).cons _
     have st8 := St.lit i hne hl hg st7
     have e : (Ob.bx b0 pre0 cs0 post0 t0).res = (Ob.bx b0 pre0 (cs0.set o (.rf j ⟨some ⟨b, 0, none⟩, ys.length, ys.length⟩)) post0 t0).res := by
      simp only [Ob.res]
      congr 2
      obtain ⟨hlt, ho⟩ := gsi_.1 ho
      have hs : cs0.map Sc.val = (cs0.map Sc.val).set o ((cs0.map Sc.val)[o]'(by simpa using hlt)) := (set_getElem_self _).symm
      rw [hs, map_set]
      congr 1
      rw [getElem_map, ho]
      rfl
     rw [e] at st8
     exact ih (h5 fp) ⟨den.fr, st8, den.fa⟩ kk
    exact hh.elim
   exact hh.elim
  exact hh.elim
 | sh j k ih =>
  intro s K hh den kk
  unfold prp at hh
  split at hh
  ·next i e h xs fe hj =>
   obtain ⟨fp, st1⟩ := St.shut (St.take (rs := []) (by simpa [Or, S.rs] using den.st) hj)
   refine ih (hh fp) ⟨den.fr, ?_, den.fa⟩ kk
   rw [append_nil] at st1
   exact st1
  exact hh.elim
 | r0 i e k ih =>
  intro s K hh den kk
  exact ih hh ⟨den.fr, den.st.row_nil e, den.fa⟩ kk
 | rn i e t k ih =>
  intro s K hh den kk
  unfold prp at hh
  split at hh
  ·next hv =>
   have e1 := den.fr t _ hv
   exact ih hh ⟨den.fr.know t (one (.rf s.nx ⟨none, 0, 0⟩)) e1, den.st.row_nil e, den.fa⟩ kk
  exact kk _ _ hh den
 | le i j xs n x hx k ih =>
  intro s K hh den kk
  unfold prp at hh
  split at hh
  ·exact leT_ok hx hh den fun hg s' h' den' => ih hg h' den' kk
  exact kk _ _ hh den
 | wt t k ih =>
  intro s K hh den kk
  unfold prp at hh
  split at hh
  ·exact ih hh den kk
  exact kk _ _ hh den
 | gi i j xs y hy k ih =>
  intro s K hh den kk
  exact giT_ok hy hh den fun s' h' den' => ih h' den' kk
 | _ => exact fun hh den kk => kk _ _ hh den
def isDq : D P R → Bool
 | .dq .. => true
 | _ => false
def isBy : D P R → Bool
 | .by_ .. => true
 | _ => false
def isBs : D P R → Bool
 | .bs .. => true
 | _ => false
def isCo : D P R → Bool
 | .co .. => true
 | _ => false
def aK7 : D P R → Bool
 | .cm .. => true
 | .co .. => true
 | _ => false
def eop (P : Program) {A : Type} {R : A → Prop} (g : Bool) (lk : Operand → Option SV) (s : S) (o : Op) (d : D P R) (K : SV → S → D P R → Tr) : Tr :=
 match o with
 | .alloc t => alT P s t fun v s => K v s d
 | .box t x => opt (lk x) fun v => bxT s t v fun v s => K v s d
 | .buildSlice t len ps => opt (lkp lk ps.toList) fun vs => bsT P s t len vs d K
 | .store t x y => opt (lk x) fun v => asC v fun c => opt (lk y) fun u => cond g .no (stT P s t c u fun s' => K (one (.vl undef)) s' d)
 | .call ⟨.builtin .append, xs, ts⟩ => match xs.toList, ts.toList with
  | [x, y], [t, t'] => nrm d fun d => match isBs d with
   | true => opt (lk x) fun v => asC v fun c => opt (lk y) fun u => asC u fun cy => cond g .no (abT P s t t' c cy d K)
   | false => .e0 t' t <| opt (lk x) fun v => asC v fun c => opt (lk y) fun u => asC u fun cy => cond g .no (apT P s t c cy d K)
  | _, _ => .no
 | .makeSlice t x y => opt (lk x) fun v => asC v fun c => opt (lk y) fun u => asC u fun cy => mkT P s t c cy fun v s => K v s d
 | .call ⟨.value (.func F), xs, _⟩ => nrm d fun d => match aK7 d with
  | true => cond g .no (cond (isCo d) (coT s lk F xs.toList d K) (cmT s lk F xs.toList d K))
  | false => clT s lk F xs.toList d K
 | .slice t x (some y) none none => nrm d fun d => match isDq d with
  | true => cond g .no (opt (lk x) fun v => asC v fun c => opt (lk y) fun u => asC u fun cy => dqT P s t c cy d K)
  | false => qop P lk s (.slice t x (some y) none none) d K
 | .convert t t' x => nrm d fun d => match isBy d with
  | true => opt (lk x) fun v => asC v fun c => byT P s t t' c d K
  | false => qop P lk s (.convert t t' x) d K
 | o => qop P lk s o d K
def aB1 : Op → Bool
 | .alloc _ | .box _ _ | .buildSlice _ _ _ | .makeSlice _ _ _ => true
 | .call ⟨.value (.func _), _, _⟩ => true
 | _ => false
theorem aE3 {w0 : World} {gw : Bool} {s : S} {lk : Operand → Option SV} {o : Op} {dd : D P R} {K : SV → S → D P R → Tr} {n : Nat} {f : Nat → Value} {W : World} {Q : Exit → Act → World → Prop} {KK : Value → World → Prop} {d : Option Tmp} {ty : TypeId} {pos : String} {af : Array Go.Edge} {g : Option (Nat × Bool)}
  (h : (eop P gw lk s o dd K).holds) (hl : ∀ x u, lk x = some u → ev n f x = u.val) (hst : St w0 W s.rs) (hfa : Facts w0 W s.B) (k : ∀ v s' d' W', (K v s' d').holds → s'.E = s.E → (gw = true → (∃ N, s'.O = N ++ s.O) ∧ Below W.heap.size W W') → St w0 W' s'.rs → Facts w0 W' s'.B → KK v.val W') : Stp P n ⟨d, o, ty, pos, af, g⟩ f W Q KK := by
 unfold eop at h
 split at h
 ·exact alT_ok h hst hfa fun v s' W' h' e g1 g2 st' fa' => k v s' _ W' h' e (fun _ => ⟨g1, g2⟩) st' fa'
 ·exact aW h fun v hv h => bxT_ok (hl _ _ hv) h hst hfa fun v s' W' h' e g1 g2 st' fa' => k v s' _ W' h' e (fun _ => ⟨g1, g2⟩) st' fa'
 ·refine aW h fun vs hvs h => ?_
  have := bsT_ok (d := d) (ty := ty) (pos := pos) (af := af) (g := g) (Q := Q) (KK := KK) (aD9 hl hvs) h hst hfa fun v s' d' W' h' e g1 g2 st' fa' => k v s' d' W' h' e (fun _ => ⟨g1, g2⟩) st' fa'
  simpa using this
 ·refine aW h fun v hv h' => cX h' fun c hc h => aW h fun u hu h => ?_
  subst hc
  cases gw with
  | true => exact h.elim
  | false =>
   simp only [cond_false] at h
   exact stT_ok (hl _ _ hv) (hl _ _ hu) h hst hfa fun s' W' h' e st' fa' => k (one (.vl undef)) s' _ W' h' e (fun hg => by cases hg) st' fa'
 ·next xs ts =>
  split at h
  ·next x y t t' e1 e2 =>
   have e1 : xs = #[x, y] := by rw [← Array.toArray_toList (xs := xs), e1]
   have e2 : ts = #[t, t'] := by rw [← Array.toArray_toList (xs := ts), e2]
   subst e1 e2
   refine dZ h fun d' h => ?_
   split at h
   ·refine aW h fun v hv h' => cX h' fun c hc h => aW h fun u hu h'' => cX h'' fun cy hcy h => ?_
    subst hc hcy
    cases gw with
    | true => exact h.elim
    | false =>
     simp only [cond_false] at h
     exact abT_ok (hl _ _ hv) (hl _ _ hu) h hst hfa fun v s' d' W' h' e st' fa' => k v s' d' W' h' e (fun hg => by cases hg) st' fa'
   obtain ⟨rfl, h⟩ := h
   refine aW h fun v hv h' => cX h' fun c hc h => aW h fun u hu h'' => cX h'' fun cy hcy h => ?_
   subst hc hcy
   cases gw with
   | true => exact h.elim
   | false =>
    simp only [cond_false] at h
    exact apT_ok (hl _ _ hv) (hl _ _ hu) h hst hfa fun v s' d' W' h' e st' fa' => k v s' d' W' h' e (fun hg => by cases hg) st' fa'
  exact h.elim
 ·refine aW h fun v hv h' => cX h' fun c hc h => aW h fun u hu h'' => cX h'' fun cy hcy h => ?_
  subst hc hcy
  exact mkT_ok (hl _ _ hv) (hl _ _ hu) h hst hfa fun v s' W' h' e g1 g2 st' fa' => k v s' _ W' h' e (fun _ => ⟨g1, g2⟩) st' fa'
 ·next F xs ts =>
  refine dZ h fun d' h1 => ?_
  split at h1
  ·cases gw with
   | true => exact h1.elim
   | false =>
    simp only [cond_false] at h1
    cases hco : isCo d' with
    | true =>
     rw [hco] at h1
     have := coT_ok (ats := ts) (d := d) (ty := ty) (pos := pos) (af := af) (g := g) (Q := Q) (KK := KK) hl h1 hst hfa fun v s' d' W' h' e st' fa' => k v s' d' W' h' e (fun hg => by cases hg) st' fa'
     simpa using this
    | false =>
    rw [hco] at h1
    have := cmT_ok (ats := ts) (d := d) (ty := ty) (pos := pos) (af := af) (g := g) (Q := Q) (KK := KK) hl h1 hst hfa fun v s' d' W' h' e st' fa' => k v s' d' W' h' e (fun hg => by cases hg) st' fa'
    simpa using this
  have := clT_ok (ats := ts) (d := d) (ty := ty) (pos := pos) (af := af) (g := g) (Q := Q) (KK := KK) hl h1 hst hfa fun v s' d' W' h' e g1 g2 st' fa' => k v s' d' W' h' e (fun _ => ⟨g1, g2⟩) st' fa'
  simpa using this
 ·next t x y =>
  refine dZ h fun d' h1 => ?_
  split at h1
  ·cases gw with
   | true => exact h1.elim
   | false =>
    simp only [cond_false] at h1
    refine aW h1 fun v hv h2 => cX h2 fun c hc h3 => aW h3 fun u hu h4 => cX h4 fun cy hcy h5 => ?_
    subst hc hcy
    exact dqT_ok (hl _ _ hv) (hl _ _ hu) h5 hst hfa fun v s' d' h' e st' fa' => k v s' d' W h' e (fun hg => by cases hg) st' fa'
  refine rZ h1 hst hfa fun v s' d' h' e1 e2 fa' q => q hl hst (Below.refl _ _) fun W'' st' hb => k v s' d' W'' h' e1 (fun _ => ⟨⟨[], by rw [e2]; rfl⟩, hb⟩) (by rw [S.rs, e2]; exact st') (fa'.up hb)
 ·next t t' x =>
  refine dZ h fun d' h1 => ?_
  split at h1
  ·refine aW h1 fun v hv h2 => cX h2 fun c hc h3 => ?_
   subst hc
   exact byT_ok (hl _ _ hv) h3 hst hfa fun v s' d' W' h' e1 e2 hb st' fa' => k v s' d' W' h' e1 (fun _ => ⟨⟨[], by rw [e2]; rfl⟩, hb⟩) st' fa'
  refine rZ h1 hst hfa fun v s' d' h' e1 e2 fa' q => q hl hst (Below.refl _ _) fun W'' st' hb => k v s' d' W'' h' e1 (fun _ => ⟨⟨[], by rw [e2]; rfl⟩, hb⟩) (by rw [S.rs, e2]; exact st') (fa'.up hb)
 next o h1 h2 h3 h4 h5 h6 h7 h8 h9 =>
 refine rZ h hst hfa fun v s' d' h' e1 e2 fa' q => q hl hst (Below.refl _ _) fun W'' st' hb => k v s' d' W'' h' e1 (fun _ => ⟨⟨[], by rw [e2]; rfl⟩, hb⟩) (by rw [S.rs, e2]; exact st') (fa'.up hb)
/-! ### A region's list -/
def putS (d : Option Tmp) (v : SV) (s : S) : S :=
 match d with
 | none => s
 | some t => ⟨(t, v) :: s.E, s.O, s.B, s.nx⟩
theorem Den.put {w0 : World} {s : S} {f : Nat → Value} {W : World} (h : Den w0 s f W) (d : Option Tmp) (v : SV) : Den w0 (putS d v s) (dK f d v.val) W := by
 cases d with
 | none => exact h
 | some t => exact ⟨h.fr.put t v, h.st, h.fa⟩
def onB (w r : Bool) : Bool := cond w r (!r)
def grd (n : Nat) (all : List Oper) (s : S) (o : Oper) (d : D P R) (K : Bool → S → D P R → Tr) : Tr :=
 match o.guard with
 | none => K true s d
 | some (j, w) => opt ((all[j]?).bind (·.dst)) fun dd => .e0 (Nat.ble (dd + 1) n) true <| opt (lku s.E dd) fun v => match v with
  | .on (.ce (.bo e)) => bl (.bo e) d fun r d => K (onB w r) ⟨(dd, one (.vl (.bool r))) :: s.E, s.O, s.B, s.nx⟩ d
  | .on (.ce c) => K (match yl c.val with
   | some b => onB w b
   | none => false) s d
  | .on (.ag _) => .no
  | .tu _ => .no
def opsT (P : Program) {A : Type} {R : A → Prop} (n : Nat) (all : List Oper) : List Oper → S → D P R → (S → D P R → Tr) → Tr
 | [], s, d, K => K s d
 | o :: os, s, d, K => prp d s fun s d => grd n all s o d fun on s d => match on with
  | true => eop P false (opd n s) s o.op d fun v s d => opsT P n all os (putS o.dst v s) d K
  | false => opsT P n all os (putS o.dst (one (.vl undef)) s) d K
theorem grd_ok {G : Prop} {w0 : World} {n : Nat} {all : List Oper} {s : S} {o : Oper} {d : D P R} {K : Bool → S → D P R → Tr} {f : Nat → Value} {W : World} (h : (grd n all s o d K).holds) (den : Den w0 s f W)
  (k : ∀ on s' d', (K on s' d').holds → Den w0 s' f W → (o.guard = none ∧ on = true ∨ ∃ j w dd, o.guard = some (j, w) ∧ (all.toArray[j]?).bind (·.dst) = some dd ∧ dd < n ∧ (yl (f dd) == some w) = on) → G) : G := by
 unfold grd at h
 split at h
 ·next hg => exact k _ _ _ h den (.inl ⟨hg, rfl⟩)
 next j w hg =>
 refine aW h fun dd hd h => ?_
 obtain ⟨hn, h⟩ := h
 have hn := Nat.le_of_ble_eq_true hn
 refine aW h fun v hv h => ?_
 have hf := den.fr dd v hv
 have hd' : (all.toArray[j]?).bind (·.dst) = some dd := by simpa using hd
 split at h
 ·next e =>
  refine aJ2 h fun r d' hr h => ?_
  have hr : e = r := by simpa [Sc.val] using hr
  subst hr
  refine k _ _ _ h ⟨den.fr.know dd _ hf, den.st, den.fa⟩ (.inr ⟨j, w, dd, hg, hd', hn, ?_⟩)
  rw [hf]
  show (some e == some w) = _
  cases e <;> cases w <;> rfl
 ·next c _ =>
  refine k _ _ _ h den (.inr ⟨j, w, dd, hg, hd', hn, ?_⟩)
  rw [hf]
  show (yl c.val == some w) = _
  split
  ·next b hb => rw [hb]; cases b <;> cases w <;> rfl
  next hb => rw [hb]; cases w <;> rfl
 ·exact h.elim
 exact h.elim
theorem yV {w0 : World} {n : Nat} {all : List Oper} {Q : Exit → Act → World → Prop} {K : S → D P R → Tr} (k : ∀ s' d' f' W', (K s' d').holds → Den w0 s' f' W' → Q .normal (act n f') W') :
  ∀ {l : List Oper} {s : S} {d : D P R} {f : Nat → Value} {W : World}, (opsT P n all l s d K).holds → Den w0 s f W → Wl P all.toArray Q l n f W
 | [], s, d, f, W, h, den => aB (k _ _ _ _ h den)
 | o :: os, s, d, f, W, h, den => by
  refine kS h den fun s1 d1 h1 den1 => grd_ok h1 den1 fun on s2 d2 h2 den2 hg => ?_
  cases on with
  | true =>
   have hs : Stp P n o f W Q (fun v W' => Wl P all.toArray Q os n (dK f o.dst v) W') := by
    refine aE3 (d := o.dst) (ty := o.type) (pos := o.pos) (af := o.after) (g := o.guard) h2 (aD5 den2.fr) den2.st den2.fa fun v s' d' W' h' e _ st' fa' => ?_
    exact yV k h' (Den.put ⟨by rw [e]; exact den2.fr, st', fa'⟩ o.dst v)
   rcases hg with ⟨hg, _⟩ | ⟨j, w, dd, hg, hd, hn, hy⟩
   ·exact sx hg hs
   exact aG0 hg hd hn (by simpa using hy) hs
  | false =>
   rcases hg with ⟨_, hx⟩ | ⟨j, w, dd, hg, hd, hn, hy⟩
   ·cases hx
   exact aC7 hg hd hn hy (yV k h2 (den2.put o.dst (one (.vl undef))))
end
end Go.Proofs.YtanpcpoogkdlaaaGreat
namespace Go.Proofs.YtanpcpoogkdlaaaGreat
set_option linter.unusedSimpArgs false
set_option linter.unusedVariables false
set_option maxRecDepth 100000
set_option maxHeartbeats 2000000
open Go.RowKit Go.Proofs.Tryz List
structure Pv where
 p : (Nat → Value) → Value → Prop
 lk : List Nat
 fr : ∀ {f f' : Nat → Value} {v}, (∀ t ∈ lk, f t = f' t) → p f v → p f' v
structure RP where
 p : (Nat → Value) → Res → Prop
 lk : List Nat
 fr : ∀ {f f' : Nat → Value} {r}, (∀ t ∈ lk, f t = f' t) → p f r → p f' r
def Pv.is (u : Value) : Pv := ⟨fun _ v => v = u, [], fun _ h => h⟩
def Pv.any : Pv := ⟨fun _ _ => True, [], fun _ h => h⟩
def Pv.ex {ι : Type} (g : ι → Value) : Pv := ⟨fun _ v => ∃ x, v = g x, [], fun _ h => h⟩
def RP.is (r : Res) : RP := ⟨fun _ s => s = r, [], fun _ h => h⟩
def RP.of {ι : Type} (ts : List Nat) (e : ι → List Value) (r : ι → Res) : RP := ⟨fun f s => ∃ x, ts.map f = e x ∧ s = r x, ts, fun h ⟨x, e1, e2⟩ => ⟨x, by rw [← e1]; exact map_congr_left (fun t ht => (h t ht).symm), e2⟩⟩
abbrev Tb := List (Option Nat × Option Nat × RP)
def isO (m : Option Nat) (i : Nat) : Bool := match m with | some j => Nat.beq j i | none => false
def gQ (D : Nat → Bool) (m u : Option Nat) : Bool := (match m with | some i => D i | none => true) && (match u with | some i => !D i | none => true)
def AL (D : Nat → Bool) : Tb → (Nat → Value) → List Res → Prop
 | [], _, rs => rs = []
 | (m, u, p) :: tb, f, rs => cond (gQ D m u) (∃ r rs2, rs = r :: rs2 ∧ p.p f r ∧ AL D tb f rs2) (AL D tb f rs)
def US (i : Nat) : Tb → (Nat → Value) → List Res → Prop
 | [], _, rs => rs = []
 | (_, u, p) :: tb, f, rs => cond (isO u i) (∃ r rs2, rs = r :: rs2 ∧ p.p f r ∧ US i tb f rs2) (US i tb f rs)
def MK (i : Nat) : Tb → (Nat → Value) → List Res → Prop
 | [], _, rs => rs = []
 | (m, _, p) :: tb, f, rs => cond (isO m i) (∃ r rs2, rs = r :: rs2 ∧ p.p f r ∧ MK i tb f rs2) (MK i tb f rs)
def aB6 (l : List Oper) : Nat → Nat → Nat → Bool
 | 0, i, j => dep l i j
 | k + 1, i, j => dep l i j || (List.range l.length).any (fun m => dep l i m && aB6 l k m j)
theorem jL {l : List Oper} {D : Nat → Bool} (hD : ∀ j k, D j = true → dep l j k = true → D k = true) : ∀ (k i j : Nat), (∀ m, dep l i m = true → D m = true) → aB6 l k i j = true → D j = true
 | 0, i, j, h, hd => h j hd
 | k + 1, i, j, h, hd => by
  unfold aB6 at hd
  rw [Bool.or_eq_true] at hd
  rcases hd with hd | hd
  ·exact h j hd
  ·rw [any_eq_true] at hd
   obtain ⟨m, _, h2⟩ := hd
   rw [Bool.and_eq_true] at h2
   exact jL hD k m j (fun q hq => hD m q (h m h2.1) hq) h2.2
def yO (l : List Oper) (i : Nat) (own : Bool) (t : Nat) : Bool := jF l t || (List.range l.length).any (fun j => ((own && Nat.beq j i) || aB6 l 2 i j) && (match bN l j with | some d => Nat.beq d t | none => false))
def tbOk (l : List Oper) (tb : Tb) : Bool :=
 tb.all (fun e => (match e.1 with | some i => Nat.blt i l.length && e.2.2.lk.all (yO l i true) | none => e.2.2.lk.all (jF l)) && (match e.2.1 with | some j => Nat.blt j l.length && (match e.1 with | some i => aB6 l 2 j i | none => true) | none => true))
def pvOk (l : List Oper) (F : List (Bool × Pv)) (tb : Tb) : Bool :=
 (List.range l.length).all (fun i => ((F.getD i (true, Pv.any)).2.lk.all (yO l i false)) && (!(F.getD i (true, Pv.any)).1 || tb.all (fun e => !isO e.1 i && !isO e.2.1 i)))
section
variable {P : Program} {n : Nat} {w0 w1 : World} {rc : List Res} {Q : Exit → Act → World → Prop}
def aJ9 (w0 w1 : World) (rc : List Res) (tb : Tb) (f : Nat → Value) (i : Nat) (o : Oper) (p : Pv) (oth : List Res) (v : Value) (W : World) : Prop :=
 p.p f v ∧ (∃ rm, MK i tb (dK f o.dst v) rm ∧ St w0 W (rm ++ (rc ++ oth))) ∧ Below w1.heap.size w1 W
def StepF (P : Program) (n : Nat) (w0 w1 : World) (rc : List Res) (Q : Exit → Act → World → Prop) (tb : Tb) (l : List Oper) (F : List (Bool × Pv)) (f0 : Nat → Value) (i : Nat) (o : Oper) (p : Pv) : Prop :=
 ∀ f W ru oth, US i tb f ru → St w0 W (ru ++ (rc ++ oth)) → Below w1.heap.size w1 W → (∀ j d, aB6 l 2 i j = true → bN l j = some d → (F.getD j (true, Pv.any)).2.p f (f d)) → (∀ t, iY l i t = true → f t = f0 t) →
  match o.guard with
  | none => Stp P n o f W Q (aJ9 w0 w1 rc tb f i o p oth)
  | some _ => cond (onR l f o) (Stp P n o f W Q (aJ9 w0 w1 rc tb f i o p oth)) (aJ9 w0 w1 rc tb f i o p oth undef W)
def StepQ (P : Program) (n : Nat) (w0 w1 : World) (rc : List Res) (Q : Exit → Act → World → Prop) (l : List Oper) (F : List (Bool × Pv)) (f0 : Nat → Value) (i : Nat) (o : Oper) (p : Pv) : Prop :=
 ∀ f W, St w0 W rc → Below w1.heap.size w1 W → (∀ j d, aB6 l 2 i j = true → bN l j = some d → (F.getD j (true, Pv.any)).2.p f (f d)) → (∀ t, iY l i t = true → f t = f0 t) →
  match o.guard with
  | none => Stp P n o f W Q (fun v W' => Below W.heap.size W W' ∧ p.p f v)
  | some _ => cond (onR l f o) (Stp P n o f W Q (fun v W' => Below W.heap.size W W' ∧ p.p f v)) (p.p f undef)
def AllF (P : Program) (n : Nat) (w0 w1 : World) (rc : List Res) (Q : Exit → Act → World → Prop) (tb : Tb) (l : List Oper) (F : List (Bool × Pv)) (f0 : Nat → Value) : Nat → List Oper → List (Bool × Pv) → Prop
 | _, [], [] => True
 | i, o :: os, (q, p) :: ps => cond q (StepQ P n w0 w1 rc Q l F f0 i o p) (StepF P n w0 w1 rc Q tb l F f0 i o p) ∧ AllF P n w0 w1 rc Q tb l F f0 (i + 1) os ps
 | _, _, _ => False
theorem AllF.get {tb : Tb} {l : List Oper} {F : List (Bool × Pv)} {f0 : Nat → Value} : ∀ {os : List Oper} {ps : List (Bool × Pv)} {k : Nat}, AllF P n w0 w1 rc Q tb l F f0 k os ps → ∀ i o, os[i]? = some o → ∃ q p, ps[i]? = some (q, p) ∧ cond q (StepQ P n w0 w1 rc Q l F f0 (k + i) o p) (StepF P n w0 w1 rc Q tb l F f0 (k + i) o p)
 | o :: os, (q, p) :: ps, k, h, 0, o', hi => by simp at hi; subst hi; exact ⟨q, p, rfl, h.1⟩
 | o :: os, (_, _) :: ps, k, h, i + 1, o', hi => by
  obtain ⟨q, p, hq, hs⟩ := AllF.get h.2 i o' (by simpa using hi)
  exact ⟨q, p, by simpa using hq, by rw [← Nat.add_assoc, Nat.add_right_comm]; exact hs⟩
 | [], _, _, _, i, o', hi => by simp at hi
 | o :: os, [], _, h, _, _, _ => h.elim
structure IF_ (w0 w1 : World) (rc : List Res) (tb : Tb) (l : List Oper) (F : List (Bool × Pv)) (f0 : Nat → Value) (D : Nat → Bool) (f : Nat → Value) (W : World) : Prop where
 res : ∃ rs, AL D tb f rs ∧ St w0 W (rs ++ rc)
 bl : Below w1.heap.size w1 W
 vals : ∀ j d, j < l.length → D j = true → bN l j = some d → (F.getD j (true, Pv.any)).2.p f (f d)
 keep : ∀ t, (∀ j, j < l.length → D j = true → bN l j ≠ some t) → f t = f0 t
theorem wM {D : Nat → Bool} {i : Nat} {f : Nat → Value} : ∀ {tb : Tb} {rs : List Res}, (∀ e ∈ tb, isO e.2.1 i = true → gQ D e.1 e.2.1 = true) → AL D tb f rs → ∃ ru ro, rs.Perm (ru ++ ro) ∧ US i tb f ru ∧ ∀ (D' : Nat → Bool) (f' : Nat → Value), (∀ j, D' j = cond (Nat.beq j i) true (D j)) → D i = false → (∀ e ∈ tb, gQ D e.1 e.2.1 = true → ∀ r, e.2.2.p f r → e.2.2.p f' r) →
   ∀ rm, MK i tb f' rm → (∀ e ∈ tb, isO e.1 i = true → isO e.2.1 i = false) → (∀ e ∈ tb, isO e.1 i = true → gQ D' e.1 e.2.1 = true) → ∃ rs', AL D' tb f' rs' ∧ rs'.Perm (rm ++ ro)
 | [], rs, _, h => ⟨[], [], by rw [show rs = [] from h]; exact List.Perm.refl _, rfl, fun D' f' _ _ _ rm hm _ _ => ⟨[], rfl, by rw [show rm = [] from hm]; exact List.Perm.refl _⟩⟩
 | (m, u, p) :: tb, rs, hu, h => by
  have hu' : ∀ e ∈ tb, isO e.2.1 i = true → gQ D e.1 e.2.1 = true := fun e he => hu e (mem_cons_of_mem _ he)
  unfold AL at h
  cases hl : gQ D m u with
  | false =>
   rw [hl] at h
   simp only [cond_false] at h
   have hui : isO u i = false := by
    cases hb : isO u i with
    | false => rfl
    | true => have := hu _ mem_cons_self hb; rw [hl] at this; cases this
   obtain ⟨ru, ro, hp, hus, hk⟩ := wM hu' h
   refine ⟨ru, ro, hp, by unfold US; rw [hui]; exact hus, fun D' f' hD hDi hpf rm hmk hmu hml => ?_⟩
   unfold MK at hmk
   cases hmi : isO m i with
   | true =>
    rw [hmi] at hmk
    simp only [cond_true] at hmk
    obtain ⟨r, rm2, rfl, hr, hmk⟩ := hmk
    obtain ⟨rs', ha, hpe⟩ := hk D' f' hD hDi (fun e he => hpf e (mem_cons_of_mem _ he)) rm2 hmk (fun e he => hmu e (mem_cons_of_mem _ he)) (fun e he => hml e (mem_cons_of_mem _ he))
    refine ⟨r :: rs', ?_, by rw [cons_append]; exact hpe.cons r⟩
    unfold AL
    rw [hml _ mem_cons_self hmi]
    exact ⟨r, rs', rfl, hr, ha⟩
   | false =>
    rw [hmi] at hmk
    simp only [cond_false] at hmk
    obtain ⟨rs', ha, hpe⟩ := hk D' f' hD hDi (fun e he => hpf e (mem_cons_of_mem _ he)) rm hmk (fun e he => hmu e (mem_cons_of_mem _ he)) (fun e he => hml e (mem_cons_of_mem _ he))
    refine ⟨rs', ?_, hpe⟩
    unfold AL
    have : gQ D' m u = false := by
     rw [← hl]
     unfold gQ
     have e1 : ∀ x, isO (some x) i = false → D' x = D x := fun x hx => by rw [hD]; have : Nat.beq x i = false := hx; rw [this]; rfl
     cases m with
     | none => cases u with
      | none => rfl
      | some y => simp only [e1 y hui]
     | some x => cases u with
      | none => simp only [e1 x hmi]
      | some y => simp only [e1 x hmi, e1 y hui]
    rw [this]; exact ha
  | true =>
   rw [hl] at h
   simp only [cond_true] at h
   obtain ⟨r, rs2, rfl, hr, h⟩ := h
   obtain ⟨ru, ro, hp, hus, hk⟩ := wM hu' h
   have hmi : D i = false → isO m i = false := fun hDi => by
    cases m with
    | none => rfl
    | some x =>
     cases hb : Nat.beq x i with
     | false => exact hb
     | true =>
      have e := Nat.eq_of_beq_eq_true hb
      subst e
      simp [gQ, hDi] at hl
   cases hui : isO u i with
   | true =>
    refine ⟨r :: ru, ro, by rw [cons_append]; exact hp.cons r, by unfold US; rw [hui]; exact ⟨r, ru, rfl, hr, hus⟩, fun D' f' hD hDi hpf rm hmk hmu hml => ?_⟩
    unfold MK at hmk
    rw [hmi hDi] at hmk
    obtain ⟨rs', ha, hpe⟩ := hk D' f' hD hDi (fun e he => hpf e (mem_cons_of_mem _ he)) rm hmk (fun e he => hmu e (mem_cons_of_mem _ he)) (fun e he => hml e (mem_cons_of_mem _ he))
    refine ⟨rs', ?_, hpe⟩
    unfold AL
    have : gQ D' m u = false := by
     cases u with
     | none => cases hui
     | some y =>
      have : D' y = true := by rw [hD]; have : Nat.beq y i = true := hui; rw [this]; rfl
      unfold gQ
      simp [this]
    rw [this]; exact ha
   | false =>
    refine ⟨ru, r :: ro, (hp.cons r).trans perm_middle.symm, by unfold US; rw [hui]; exact hus, fun D' f' hD hDi hpf rm hmk hmu hml => ?_⟩
    unfold MK at hmk
    have hm0 := hmi hDi
    rw [hm0] at hmk
    obtain ⟨rs', ha, hpe⟩ := hk D' f' hD hDi (fun e he => hpf e (mem_cons_of_mem _ he)) rm hmk (fun e he => hmu e (mem_cons_of_mem _ he)) (fun e he => hml e (mem_cons_of_mem _ he))
    refine ⟨r :: rs', ?_, (hpe.cons r).trans perm_middle.symm⟩
    unfold AL
    have : gQ D' m u = true := by
     rw [← hl]
     unfold gQ
     have e1 : ∀ x, isO (some x) i = false → D' x = D x := fun x hx => by rw [hD]; have : Nat.beq x i = false := hx; rw [this]; rfl
     cases m with
     | none => cases u with
      | none => rfl
      | some y => simp only [e1 y hui]
     | some x => cases u with
      | none => simp only [e1 x hm0]
      | some y => simp only [e1 x hm0, e1 y hui]
    rw [this]
    exact ⟨r, rs', rfl, hpf _ mem_cons_self hl r hr, ha⟩
theorem keepF {tb : Tb} {l : List Oper} {F : List (Bool × Pv)} {f0 : Nat → Value} (ho : OrdOk n l) (htb : tbOk l tb = true) (hpv : pvOk l F tb = true) (hs : AllF P n w0 w1 rc Q tb l F f0 0 l F) : KeepI P n Q l (IF_ w0 w1 rc tb l F f0) := by
 constructor
 intro i o D f W hol hDi hdep hdown hI
 have hiN : i < l.length := (gsi_.1 hol).1
 obtain ⟨q, p, hp, hstep⟩ := hs.get i o hol
 rw [Nat.zero_add] at hstep
 have hpF : F.getD i (true, Pv.any) = (q, p) := by rw [getD_eq_getElem?_getD, hp]; rfl
 have hdo : bN l i = o.dst := by simp [bN, hol]
 rw [tbOk, all_eq_true] at htb
 rw [pvOk, all_eq_true] at hpv
 obtain ⟨rs, hAL, hst⟩ := hI.res
 have hdp : ∀ j d, aB6 l 2 i j = true → bN l j = some d → (F.getD j (true, Pv.any)).2.p f (f d) := fun j d hj hd => hI.vals j d (by
  unfold bN at hd
  cases hq : l[j]? with
  | none => rw [hq] at hd; cases hd
  | some x => exact (gsi_.1 hq).1) (jL hdown 2 i j hdep hj) hd
 have hkp : ∀ t, iY l i t = true → f t = f0 t := fun t hk => by
  refine hI.keep t (fun j hjN hj hd => ?_)
  unfold iY at hk
  rw [all_eq_true] at hk
  have := hk j (by simpa using hjN)
  rw [hd] at this
  simp only [eH, Bool.not_true, Bool.or_false, Bool.or_eq_true] at this
  rcases this with h | h
  ·rw [Nat.eq_of_beq_eq_true h, hDi] at hj; cases hj
  have := hdown j i hj h
  rw [hDi] at this; cases this
 have hput : ∀ v t, o.dst ≠ some t → dK f o.dst v t = f t := by
  intro v t h
  cases hod : o.dst with
  | none => rfl
  | some d' =>
   simp only [dK, upd]
   rw [gH (fun e' => h (by rw [hod, e']))]; rfl
 -- slots that are looked at are not this one's
 have hslot : ∀ j own, D j = true ∨ (own = false ∧ j = i) → ∀ t, yO l j own t = true → o.dst ≠ some t := by
  intro j own hj t ht e
  unfold yO at ht
  rw [Bool.or_eq_true] at ht
  rcases ht with ht | ht
  ·exact mE ht i hiN (by rw [hdo]; exact e)
  rw [any_eq_true] at ht
  obtain ⟨k, hkN, h2⟩ := ht
  rw [mem_range] at hkN
  rw [Bool.and_eq_true] at h2
  have hkd : bN l k = some t := by
   have := h2.2
   split at this
   ·next d hd => rw [hd, Nat.eq_of_beq_eq_true this]
   cases this
  have hkD : D k = true := by
   have h3 := h2.1
   rw [Bool.or_eq_true, Bool.and_eq_true] at h3
   rcases hj with hj | ⟨rfl, rfl⟩
   ·rcases h3 with h3 | h3
    ·rw [Nat.eq_of_beq_eq_true h3.2]; exact hj
    exact jL hdown 2 j k (fun m hm => hdown j m hj hm) h3
   rcases h3 with h3 | h3
   ·cases h3.1
   exact jL hdown 2 j k hdep h3
  have hki : k ≠ i := fun e' => by rw [e', hDi] at hkD; cases hkD
  exact ho.ne k i t hkN hiN hki hkd (by rw [hdo]; exact e)
 have hDs : ∀ j, eK D i j = cond (Nat.beq j i) true (D j) := fun _ => rfl
 have hpc : ∀ v W', (∃ rs', AL (eK D i) tb (dK f o.dst v) rs' ∧ St w0 W' (rs' ++ rc)) → Below w1.heap.size w1 W' → p.p f v → IF_ w0 w1 rc tb l F f0 (eK D i) (dK f o.dst v) W' := by
  intro v W' hr hb hv
  refine ⟨hr, hb, ?_, ?_⟩
  ·intro j d hjN hj hd
   by_cases e : j = i
   ·subst e
    rw [hpF]
    rw [hdo] at hd
    have e3 : dK f o.dst v d = v := by rw [hd]; simp only [dK, upd, eH, cond_true]
    rw [e3]
    refine p.fr (fun t ht => ?_) hv
    have h1 := hpv j (by simpa using hjN)
    rw [hpF, Bool.and_eq_true, all_eq_true] at h1
    exact (hput v t (hslot j false (.inr ⟨rfl, rfl⟩) t (h1.1 t ht))).symm
   have hjD : D j = true := by rw [hDs, gH e] at hj; exact hj
   have hold := hI.vals j d hjN hjD hd
   rw [hput v d (fun e' => ho.ne j i d hjN hiN e hd (by rw [hdo]; exact e'))]
   refine (F.getD j (true, Pv.any)).2.fr (fun t ht => ?_) hold
   have h1 := hpv j (by simpa using hjN)
   rw [Bool.and_eq_true, all_eq_true] at h1
   exact (hput v t (hslot j false (.inl hjD) t (h1.1 t ht))).symm
  intro t hk
  have hne : o.dst ≠ some t := by rw [← hdo]; exact hk i hiN (by rw [hDs, eH]; rfl)
  rw [hput v t hne]
  refine hI.keep t (fun j hjN hj => hk j hjN ?_)
  rw [hDs]
  cases Nat.beq j i with
  | true => rfl
  | false => exact hj
 have hlv : ∀ e ∈ tb, gQ D e.1 e.2.1 = true → ∀ v r, e.2.2.p f r → e.2.2.p (dK f o.dst v) r := by
  intro e he hl v r hr
  refine e.2.2.fr (fun t ht => ?_) hr
  have h1 := htb e he
  rw [Bool.and_eq_true] at h1
  obtain ⟨h1, _⟩ := h1
  cases hm : e.1 with
  | none =>
   rw [hm] at h1
   simp only [all_eq_true] at h1
   exact (hput v t (fun e' => mE (h1 t ht) i hiN (by rw [hdo]; exact e'))).symm
  | some j =>
   rw [hm] at h1 hl
   simp only [Bool.and_eq_true, all_eq_true] at h1
   unfold gQ at hl
   rw [Bool.and_eq_true] at hl
   exact (hput v t (hslot j true (.inl hl.1) t (h1.2 t ht))).symm
 cases q with
 | true =>
  simp only [cond_true] at hstep
  have hno : ∀ e ∈ tb, isO e.1 i = false ∧ isO e.2.1 i = false := by
   have h1 := hpv i (by simpa using hiN)
   rw [hpF, Bool.and_eq_true] at h1
   have h2 := h1.2
   simp only [Bool.not_true, Bool.false_or, all_eq_true, Bool.and_eq_true, Bool.not_eq_true'] at h2
   exact h2
  have hAL2 : ∀ v, AL (eK D i) tb (dK f o.dst v) rs := by
   intro v
   have key : ∀ (tb : Tb) (rs : List Res), (∀ e ∈ tb, isO e.1 i = false ∧ isO e.2.1 i = false) → (∀ e ∈ tb, gQ D e.1 e.2.1 = true → ∀ r, e.2.2.p f r → e.2.2.p (dK f o.dst v) r) → AL D tb f rs → AL (eK D i) tb (dK f o.dst v) rs := by
    intro tb
    induction tb with
    | nil => intro rs _ _ h; exact h
    | cons e tb ih =>
     obtain ⟨m, u, p⟩ := e
     intro rs h1 h2 h
     have hm := (h1 _ mem_cons_self).1
     have hu := (h1 _ mem_cons_self).2
     have e1 : ∀ x, isO (some x) i = false → eK D i x = D x := fun x hx => by rw [hDs]; have : Nat.beq x i = false := hx; rw [this]; rfl
     have hl : gQ (eK D i) m u = gQ D m u := by
      unfold gQ
      cases m with
      | none => cases u with
       | none => rfl
       | some y => simp only [e1 y hu]
      | some x => cases u with
       | none => simp only [e1 x hm]
       | some y => simp only [e1 x hm, e1 y hu]
     unfold AL at h ⊢
     rw [hl]
     cases hlv2 : gQ D m u with
     | true =>
      rw [hlv2] at h
      obtain ⟨r, rs2, e, hr, h⟩ := h
      exact ⟨r, rs2, e, h2 _ mem_cons_self hlv2 r hr, ih rs2 (fun x hx => h1 x (mem_cons_of_mem _ hx)) (fun x hx => h2 x (mem_cons_of_mem _ hx)) h⟩
     | false =>
      rw [hlv2] at h
      exact ih rs (fun x hx => h1 x (mem_cons_of_mem _ hx)) (fun x hx => h2 x (mem_cons_of_mem _ hx)) h
   exact key tb rs hno (fun e he hl r hr => hlv e he hl v r hr) hAL
  have hrc : St w0 W rc := by have := hst.sub (sublist_append_right rs rc); exact this
  have h1 := hstep f W hrc hI.bl hdp hkp
  have hfin : ∀ v W', Below W.heap.size W W' ∧ p.p f v → IF_ w0 w1 rc tb l F f0 (eK D i) (dK f o.dst v) W' := fun v W' h => hpc v W' ⟨rs, hAL2 v, by simpa using hst.call (St.of_below h.1)⟩ (hI.bl.trans (h.1.mono hI.bl.size)) h.2
  cases hg : o.guard with
  | none =>
   rw [hg] at h1
   have : onR l f o = true := by unfold onR; rw [hg]
   rw [this]
   exact Stp.mono h1 hfin
  | some jw =>
   rw [hg] at h1
   simp only at h1
   cases hon : onR l f o with
   | true => rw [hon] at h1; exact Stp.mono h1 hfin
   | false => rw [hon] at h1; exact hfin undef W ⟨Below.refl _ _, h1⟩
 | false =>
  simp only [cond_false] at hstep
  have hu : ∀ e ∈ tb, isO e.2.1 i = true → gQ D e.1 e.2.1 = true := by
   intro e he hui
   have h1 := htb e he
   rw [Bool.and_eq_true] at h1
   obtain ⟨_, h1⟩ := h1
   cases hu2 : e.2.1 with
   | none => rw [hu2] at hui; cases hui
   | some y =>
    rw [hu2] at h1 hui
    have hyi : y = i := Nat.eq_of_beq_eq_true hui
    subst hyi
    rw [Bool.and_eq_true] at h1
    unfold gQ
    simp only [hDi, Bool.not_false, Bool.and_true]
    cases hm : e.1 with
    | none => rfl
    | some x =>
     rw [hm] at h1
     exact jL hdown 2 y x hdep h1.2
  obtain ⟨ru, ro, hpe, hus, hk⟩ := wM hu hAL
  have hmu : ∀ e ∈ tb, isO e.1 i = true → isO e.2.1 i = false := by
   intro e he hmi
   cases hb : isO e.2.1 i with
   | false => rfl
   | true =>
    have := hu e he hb
    cases hm : e.1 with
    | none => rw [hm] at hmi; cases hmi
    | some x =>
     rw [hm] at hmi this
     have e := Nat.eq_of_beq_eq_true (show Nat.beq x i = true from hmi)
     subst e
     simp [gQ, hDi] at this
  have hml : ∀ e ∈ tb, isO e.1 i = true → gQ (eK D i) e.1 e.2.1 = true := by
   intro e he hmi
   have hui := hmu e he hmi
   have h1 := htb e he
   rw [Bool.and_eq_true] at h1
   obtain ⟨_, h1⟩ := h1
   cases hm : e.1 with
   | none => rw [hm] at hmi; cases hmi
   | some x =>
    rw [hm] at hmi h1
    have hxi : x = i := Nat.eq_of_beq_eq_true hmi
    subst hxi
    unfold gQ
    have e1 : eK D x x = true := by rw [hDs, eH]; rfl
    simp only [e1, Bool.true_and]
    cases hu2 : e.2.1 with
    | none => rfl
    | some y =>
     rw [hu2] at h1 hui
     simp only [Bool.and_eq_true] at h1
     have hyx : Nat.beq y x = false := hui
     show (!eK D x y) = true
     rw [hDs, hyx]
     simp only [cond_false]
     cases hy : D y with
     | false => rfl
     | true =>
      exfalso
      have := jL hdown 2 y x (fun m hm => hdown y m hy hm) h1.2
      rw [hDi] at this; cases this
  have hst2 : St w0 W (ru ++ (rc ++ ro)) := by
   refine hst.perm (List.Perm.trans ?_ (hpe.symm.append_right rc))
   rw [append_assoc]
   exact (List.Perm.refl ru).append perm_append_comm
  have h1 := hstep f W ru ro hus hst2 hI.bl hdp hkp
  have hfin : ∀ v W', aJ9 w0 w1 rc tb f i o p ro v W' → IF_ w0 w1 rc tb l F f0 (eK D i) (dK f o.dst v) W' := by
   rintro v W' ⟨hv, ⟨rm, hmk, hs2⟩, hb⟩
   obtain ⟨rs', ha, hp2⟩ := hk (eK D i) (dK f o.dst v) hDs hDi (fun e he hl r hr => hlv e he hl v r hr) rm hmk hmu hml
   refine hpc v W' ⟨rs', ha, hs2.perm ?_⟩ hb hv
   refine (hp2.append_right rc).trans ?_
   rw [append_assoc]
   exact (List.Perm.refl rm).append perm_append_comm
  cases hg : o.guard with
  | none =>
   rw [hg] at h1
   have : onR l f o = true := by unfold onR; rw [hg]
   rw [this]
   exact Stp.mono h1 hfin
  | some jw =>
   rw [hg] at h1
   simp only at h1
   cases hon : onR l f o with
   | true => rw [hon] at h1; exact Stp.mono h1 hfin
   | false => rw [hon] at h1; exact hfin undef W h1
theorem iH {id : Nat} {l : List Oper} (k : Nat) (tb : Tb) {W : World} {f0 : Nat → Value} (F : List (Bool × Pv)) (hm : P.follows .mixedOrders = true) (ho : oQ n (l.take k) = true) (hT : ((l.drop k).isEmpty || mU (l.take k) (l.drop k)) = true) (htb : tbOk (l.take k) tb = true) (hpv : pvOk (l.take k) F tb = true)
  {rs0 : List Res} (h0 : AL (fun _ => false) tb f0 rs0) (hst : St w0 W (rs0 ++ rc)) (hb : Below w1.heap.size w1 W) (hs : AllF P n w0 w1 rc Q tb (l.take k) F f0 0 (l.take k) F)
  (fin : ∀ f W' rs', AL (fun _ => true) tb f rs' → St w0 W' (rs' ++ rc) → Below w1.heap.size w1 W' → (∀ i d, i < (l.take k).length → bN (l.take k) i = some d → (F.getD i (true, Pv.any)).2.p f (f d)) → (∀ t, jF (l.take k) t = true → f t = f0 t) → Wl P l.toArray Q (l.drop k) n f W') :
  (Code.region id l.toArray true).wp P Q (act n f0) W := by
 have hbd : Below W.heap.size W { W with drawn := W.drawn + 1 } := (Below.refl _ _).drew
 refine tO k (IF_ w0 w1 rc tb (l.take k) F f0) hm ho hT ⟨⟨rs0, h0, by simpa using hst.call (St.of_below hbd)⟩, hb.trans (hbd.mono hb.size), fun j d _ h => (nomatch h), fun _ _ => rfl⟩ (keepF (OrdOk.of ho) htb hpv hs) ?_
 intro D f W' hD hI
 obtain ⟨rs', hAL, hst'⟩ := hI.res
 have hAt : AL (fun _ => true) tb f rs' := by
  have key : ∀ (tb : Tb) (rs : List Res), (∀ e ∈ tb, (∀ i, e.1 = some i → i < (l.take k).length) ∧ (∀ i, e.2.1 = some i → i < (l.take k).length)) → AL D tb f rs → AL (fun _ => true) tb f rs := by
   intro tb
   induction tb with
   | nil => intro rs _ h; exact h
   | cons e tb ih =>
    obtain ⟨m, u, p⟩ := e
    intro rs h1 h
    have hl : gQ (fun _ => true) m u = gQ D m u := by
     unfold gQ
     have h2 := h1 _ mem_cons_self
     cases m with
     | none => cases u with
      | none => rfl
      | some y => simp only [hD y (h2.2 y rfl)]
     | some x => cases u with
      | none => simp only [hD x (h2.1 x rfl)]
      | some y => simp only [hD x (h2.1 x rfl), hD y (h2.2 y rfl)]
    unfold AL at h ⊢
    rw [hl]
    cases hlv2 : gQ D m u with
    | true =>
     rw [hlv2] at h
     obtain ⟨r, rs2, e, hr, h⟩ := h
     exact ⟨r, rs2, e, hr, ih rs2 (fun x hx => h1 x (mem_cons_of_mem _ hx)) h⟩
    | false =>
     rw [hlv2] at h
     exact ih rs (fun x hx => h1 x (mem_cons_of_mem _ hx)) h
  refine key tb rs' ?_ hAL
  intro e he
  rw [tbOk, all_eq_true] at htb
  have h1 := htb e he
  rw [Bool.and_eq_true] at h1
  refine ⟨fun i hi => ?_, fun i hi => ?_⟩
  ·rw [hi] at h1; have := h1.1; simp only [Bool.and_eq_true] at this; exact jY this.1
  rw [hi] at h1; have := h1.2; simp only [Bool.and_eq_true] at this; exact jY this.1
 exact fin f W' rs' hAt hst' hI.bl (fun i d hi hd => hI.vals i d hi (hD i hi) hd) (fun t ht => hI.keep t (fun i hi _ => mE ht i hi))
theorem mq_ {A P : Prop} (z : A) (h : A → P := by intro z f W hst hbl hd hf; exact aG (Eq.trans (hf _ (by rfl)) z) brq) : P := h z
theorem fq_ {A B P : Prop} (y : B) (z : A) (h : B → A → P := by intro y z f W hst hbl hd hf; exact aL y (Eq.trans (hf _ (by rfl)) z) brq) : P := h y z
end
end Go.Proofs.YtanpcpoogkdlaaaGreat
namespace Go.Proofs.YtanpcpoogkdlaaaGreat
set_option linter.unusedSimpArgs false
set_option linter.unusedVariables false
set_option maxHeartbeats 1000000
set_option maxHeartbeats 2000000
open Go.RowKit Go.Proofs.Tryz List

def aN7 (l : List Oper) (j t : Nat) : Bool :=
 match bN l j with
 | some d => Nat.beq d t
 | none => false
theorem isDst_ok {l : List Oper} {j t : Nat} (h : aN7 l j t = true) : bN l j = some t := by
 unfold aN7 at h
 split at h
 ·next d hd => rw [hd, Nat.eq_of_beq_eq_true h]
 cases h
def lkD (n : Nat) (l : List Oper) (E0 V : List (Nat × SV)) (i : Nat) : Operand → Option SV
 | .tmp t => cond (Nat.ble (t + 1) n) (match (List.range l.length).find? (fun j => dep l i j && aN7 l j t) with
  | some j => lku V j
  | none => cond (iY l i t) (lku E0 t) none) none
 | .const v => some (one (.vl v))
 | .global _ => none
 | .func g => some (one (.vl (.func (.func g) #[] #[])))
def isX : Op → Bool
 | .alloc _ | .box _ _ | .buildSlice _ _ _ | .store _ _ _ | .makeSlice _ _ _ => true
 | .call ⟨.value (.func _), _, _⟩ => true
 | .call ⟨.builtin .append, _, _⟩ => true
 | .call ⟨.builtin .copy, _, _⟩ => true
 | .call ⟨.builtin .clear, _, _⟩ => true
 | _ => false
def aM8 (l : List Oper) (done : List Nat) (p : Op → Bool) : Option Nat :=
 (List.range l.length).find? fun i => !done.contains i && (match l[i]? with
  | some o => p o.op
  | none => false) && (List.range l.length).all fun j => !dep l i j || done.contains j
def wB (l : List Oper) : Nat → List Nat → List Nat
 | 0, _ => []
 | k + 1, done => match aM8 l done (fun o => !isX o) with
  | some i => i :: wB l k (i :: done)
  | none => match aM8 l done (fun _ => true) with
   | some i => i :: wB l k (i :: done)
   | none => []
def dA {α : Type u} (V : List (Nat × α)) : List Nat := V.map (·.1)
def aK9 (l : List Oper) (j : Nat) : List Nat := (List.range l.length).foldl (fun acc i => cond (acc.any fun k => dep l i k) (i :: acc) acc) [j]
def aE9 (l : List Oper) (is : List Nat) (i : Nat) : Bool := is.all fun q => (aK9 l i).contains q
def pnd (l : List Oper) (done : List Nat) (i : Nat) (g : Bool) : List Nat := cond g [] (done.filter fun j => !(aK9 l j).contains i)
section
variable {P : Program} {A : Type} {R : A → Prop}
def grdD (V : List (Nat × SV)) (o : Oper) (d : D P R) (K : Bool → List (Nat × SV) → D P R → Tr) : Tr :=
 match o.guard with
 | none => K true V d
 | some (j, w) => opt (lku V j) fun v => match v with
  | .on (.ce (.bo e)) => bl (.bo e) d fun r d => K (onB w r) ((j, one (.vl (.bool r))) :: V) d
  | .on (.ce c) => K (match yl c.val with
   | some b => onB w b
   | none => false) V d
  | .on (.ag _) => .no
  | .tu _ => .no
def rrT (P : Program) {A : Type} {R : A → Prop} (n : Nat) (l : List Oper) (E0 V : List (Nat × SV)) (s : S) (d : D P R) : List Nat → Tr → Tr
 | [], k => k
 | j :: js, k => opt (l[j]?) fun o => opt (lku V j) fun x => .e0 o.guard.isNone true <| qop P (lkD n l E0 V j) s o.op d fun v _ _ => .e0 v.val x.val (rrT P n l E0 V s d js k)
def drT (P : Program) {A : Type} {R : A → Prop} (n : Nat) (l : List Oper) (E0 : List (Nat × SV)) : List Nat → List (Nat × SV) → S → D P R → (List (Nat × SV) → S → D P R → Tr) → Tr
 | [], V, s, d, K => K V s d
 | i :: is, V, s, d, K => opt (l[i]?) fun o => .e0 (lku V i).isNone true <| grdD V o d fun on V d => match on with
  | true => nrm d fun d => match isX o.op && aE9 l is i with
   | true => eop P (aB1 o.op && !aK7 d) (lkD n l E0 V i) s o.op d fun v s d' => rrT P n l E0 ((i, v) :: V) s d' (pnd l (dA V) i (aB1 o.op && !aK7 d)) (drT P n l E0 is ((i, v) :: V) s d' K)
   | false => qop P (lkD n l E0 V i) s o.op d fun v s d => drT P n l E0 is ((i, v) :: V) s d K
  | false => drT P n l E0 is ((i, one (.vl undef)) :: V) s d K
def sK (l : List Oper) (V : List (Nat × SV)) : List Nat → List (Nat × SV)
 | [] => []
 | j :: js => match bN l j, lku V j with
  | some d, some x => (d, x) :: sK l V js
  | _, _ => sK l V js
def aO3 (P : Program) {A : Type} {R : A → Prop} (n : Nat) (l : List Oper) (s : S) (d : D P R) (K : S → D P R → Tr) : Tr :=
 prp d s fun s d => .e0 (P.follows .mixedOrders && oQ n l) true <| .e0 ((List.range l.length).all fun i => (wB l l.length []).contains i) true <|
  drT P n l s.E (wB l l.length []) [] s d fun V s' d => K ⟨sK l V (List.range l.length) ++ s.E, s'.O, s'.B, s'.nx⟩ d

/-! ### It is so -/
def FIa (l : List Oper) (V : List (Nat × SV)) (D : Nat → Bool) (f : Nat → Value) : Prop := ∀ j x d, lku V j = some x → D j = true → bN l j = some d → f d = x.val
def FIb (l : List Oper) (f0 : Nat → Value) (D : Nat → Bool) (f : Nat → Value) : Prop := ∀ t, (∀ j, D j = true → bN l j ≠ some t) → f t = f0 t
def wL (l : List Oper) (D : Nat → Bool) : Prop := ∀ j k, D j = true → dep l j k = true → D k = true
theorem vM {n : Nat} {l : List Oper} {E0 V : List (Nat × SV)} {i : Nat} {D : Nat → Bool} {f0 f : Nat → Value} (hE : Fr E0 f0) (hi : D i = false) (hd : ∀ j, dep l i j = true → D j = true) (hc : wL l D) (ha : FIa l V D f) (hb : FIb l f0 D f) (x : Operand) (u : SV) (e : lkD n l E0 V i x = some u) : ev n f x = u.val := by
 cases x with
 | tmp t =>
  simp only [lkD] at e
  cases hn : Nat.ble (t + 1) n with
  | false => rw [hn] at e; cases e
  | true =>
   rw [hn] at e
   simp only [ev, hn, cond_true] at e ⊢
   split at e
   ·next j hj =>
    have := find?_some hj
    simp only [Bool.and_eq_true] at this
    exact ha j u t e (hd j this.1) (isDst_ok this.2)
   cases hk : iY l i t with
   | false => rw [hk] at e; cases e
   | true =>
    rw [hk] at e
    rw [hb t fun j hj hdj => ?_]
    ·exact hE t u e
    unfold iY at hk
    rw [all_eq_true] at hk
    have hjl : j < l.length := by
     unfold bN at hdj
     cases hq : l[j]? with
     | none => rw [hq] at hdj; cases hdj
     | some o => exact (gsi_.1 hq).1
    have := hk j (mem_range.2 hjl)
    rw [hdj] at this
    simp only [eH, Bool.not_true, Bool.or_false, Bool.or_eq_true] at this
    rcases this with h | h
    ·rw [Nat.eq_of_beq_eq_true h] at hj; rw [hj] at hi; cases hi
    have := hc j i hj h; rw [hi] at this; cases this
 | const v => simp only [lkD, Option.some.injEq] at e; subst e; rfl
 | global g => cases e
 | func g => simp only [lkD, Option.some.injEq] at e; subst e; rfl
theorem nK {l : List Oper} {D : Nat → Bool} (hc : wL l D) {i q : Nat} (h : (aK9 l i).contains q = true) (hq : q ≠ i) (hd : ∀ m, dep l q m = true → D m = true) : D i = true := by
 have key : ∀ (r acc : List Nat), (∀ q ∈ acc, (D q = true → D i = true) ∧ (q = i ∨ ∃ m, dep l q m = true ∧ (D m = true → D i = true))) → ∀ q ∈ r.foldl (fun acc i => cond (acc.any fun k => dep l i k) (i :: acc) acc) acc, (D q = true → D i = true) ∧ (q = i ∨ ∃ m, dep l q m = true ∧ (D m = true → D i = true)) := by
  intro r
  induction r with
  | nil => exact fun acc h => h
  | cons a r ih =>
   intro acc h
   refine ih _ ?_
   show ∀ q ∈ cond (acc.any fun k => dep l a k) (a :: acc) acc, _
   cases ha : acc.any fun k => dep l a k with
   | false => exact h
   | true =>
    show ∀ q ∈ a :: acc, _
    intro q hq
    rcases mem_cons.1 hq with rfl | hq
    ·obtain ⟨k, hk, hdk⟩ := any_eq_true.1 ha
     have := (h k hk).1
     exact ⟨fun hD => this (hc _ _ hD hdk), .inr ⟨k, hdk, this⟩⟩
    exact h q hq
 have := key (List.range l.length) [i] (fun q hq => by rw [mem_singleton] at hq; subst hq; exact ⟨id, .inl rfl⟩) q (by simpa [aK9] using h)
 rcases this.2 with rfl | ⟨m, hm, h2⟩
 ·exact absurd rfl hq
 exact h2 (hd m hm)
def Ext (V V2 : List (Nat × SV)) : Prop := ∀ j x, lku V j = some x → ∃ x', lku V2 j = some x' ∧ x'.val = x.val
theorem Ext.refl (V : List (Nat × SV)) : Ext V V := fun j x h => ⟨x, h, rfl⟩
theorem Ext.trans {A B C : List (Nat × SV)} (h : Ext A B) (k : Ext B C) : Ext A C := fun j x hx => by
 obtain ⟨x', h1, h2⟩ := h j x hx
 obtain ⟨x'', h3, h4⟩ := k j x' h1
 exact ⟨x'', h3, h4.trans h2⟩
theorem Ext.new {V : List (Nat × SV)} {i : Nat} {v : SV} (h : lku V i = none) : Ext V ((i, v) :: V) := fun j x hx => by
 refine ⟨x, ?_, rfl⟩
 unfold lku
 rw [gH (fun e => by rw [e, h] at hx; cases hx)]
 exact hx
theorem Ext.know {V : List (Nat × SV)} {i : Nat} {v v' : SV} (h : lku V i = some v) (e : v'.val = v.val) : Ext V ((i, v') :: V) := fun j x hx => by
 by_cases hj : j = i
 ·subst hj
  rw [h] at hx; cases hx
  exact ⟨v', by unfold lku; rw [Nat.beq_refl]; rfl, e⟩
 ·exact ⟨x, by unfold lku; rw [gH hj]; exact hx, rfl⟩
theorem FIa.of_ext {l : List Oper} {V V2 : List (Nat × SV)} {D : Nat → Bool} {f : Nat → Value} (h : FIa l V2 D f) (e : Ext V V2) : FIa l V D f := fun j x d hx hj hd => by
 obtain ⟨x', h1, h2⟩ := e j x hx
 rw [h j x' d h1 hj hd, h2]
def Pnd (P : Program) (n : Nat) (Q : Exit → Act → World → Prop) (w0 : World) (l : List Oper) (f0 : Nat → Value) (V : List (Nat × SV)) (s : S) (W : World) (j : Nat) : Prop :=
 ∃ x o, lku V j = some x ∧ l[j]? = some o ∧ ∀ D f W', D j = false → (∀ k, dep l j k = true → D k = true) → wL l D → FIa l V D f → FIb l f0 D f → St w0 W' s.rs → Below W.heap.size W W' →
  cond (onR l f o) (∀ KK : Value → World → Prop, (∀ W'', Below W'.heap.size W' W'' → KK x.val W'') → Stp P n o f W' Q KK) (x.val = undef)
theorem Pnd.mono {n : Nat} {Q : Exit → Act → World → Prop} {w0 : World} {l : List Oper} {f0 : Nat → Value} {V V2 : List (Nat × SV)} {s s2 : S} {W W2 : World} {j : Nat} (h : Pnd P n Q w0 l f0 V s W j) (e : Ext V V2) (hs : ∃ N, s2.O = N ++ s.O) (hb : Below W.heap.size W W2) : Pnd P n Q w0 l f0 V2 s2 W2 j := by
 obtain ⟨x, o, h1, h2, h3⟩ := h
 obtain ⟨x', h4, h5⟩ := e j x h1
 refine ⟨x', o, h4, h2, fun D f W' a b c d g st b2 => ?_⟩
 obtain ⟨N, hN⟩ := hs
 have := h3 D f W' a b c (d.of_ext e) g (st.sub (by rw [S.rs, S.rs, hN, map_append]; exact sublist_append_right _ _)) (hb.trans (b2.mono hb.size))
 rw [h5]
 exact this
def Stg (P : Program) {A : Type} {R : A → Prop} (n : Nat) (l : List Oper) (E0 : List (Nat × SV)) (K : List (Nat × SV) → S → D P R → Tr) (is : List Nat) (V : List (Nat × SV)) (s : S) (d : D P R) : Prop :=
 match is with
 | [] => (K V s d).holds
 | i :: is => ∃ o g, l[i]? = some o ∧ lku V i = none ∧ aE9 l is i = true ∧ (eop P g (lkD n l E0 V i) s o.op d fun v s d => rrT P n l E0 ((i, v) :: V) s d (pnd l (dA V) i g) (drT P n l E0 is ((i, v) :: V) s d K)).holds ∧
   ∀ D f, (∀ k, dep l i k = true → D k = true) → FIa l V D f → onR l f o = true
theorem grdD_ok {G : Prop} {n : Nat} {l : List Oper} (ho : OrdOk n l) {V : List (Nat × SV)} {i : Nat} {o : Oper} {d : D P R} {K : Bool → List (Nat × SV) → D P R → Tr} (hi : l[i]? = some o) (h : (grdD V o d K).holds)
  (k : ∀ on V2 d', (K on V2 d').holds → Ext V V2 → (∀ j, j ∈ dA V2 ↔ j ∈ dA V) → (∀ D f, (∀ k, dep l i k = true → D k = true) → FIa l V2 D f → onR l f o = on) → G) : G := by
 unfold grdD at h
 split at h
 ·next hg => exact k _ _ _ h (Ext.refl V) (fun _ => Iff.rfl) fun D f _ _ => by unfold onR; rw [hg]
 next j w hg =>
 obtain ⟨hdj, dd, hdd⟩ := ho.guard i o j w hi hg
 refine aW h fun v hv h => ?_
 split at h
 ·next e =>
  refine aJ2 h fun r d' hr h => ?_
  have hr : e = r := by simpa [Sc.val] using hr
  subst hr
  refine k _ _ _ h (Ext.know hv rfl) (fun q => ?_) fun D f hd ha => ?_
  ·simp only [dA, map_cons, mem_cons]
   exact ⟨fun h => h.elim (fun e => by rw [e]; exact mem_map.2 ⟨_, mA hv, rfl⟩) id, .inr⟩
  have := ha j _ dd (by unfold lku; rw [Nat.beq_refl]; rfl) (hd j hdj) hdd
  unfold onR
  rw [hg]
  simp only [hdd]
  rw [this]
  show (some e == some w) = _
  cases e <;> cases w <;> rfl
 ·next c _ =>
  refine k _ _ _ h (Ext.refl V) (fun _ => Iff.rfl) fun D f hd ha => ?_
  have := ha j _ dd hv (hd j hdj) hdd
  unfold onR
  rw [hg]
  simp only [hdd]
  rw [this]
  show (yl c.val == some w) = _
  split
  ·next b hb => rw [hb]; cases b <;> cases w <;> rfl
  next hb => rw [hb]; cases w <;> rfl
 ·exact h.elim
 exact h.elim
theorem lku_none {α : Type u} {V : List (Nat × α)} {j : Nat} : lku V j = none ↔ j ∉ dA V := by
 induction V with
 | nil => simp [lku, dA]
 | cons p V ih =>
  obtain ⟨i, v⟩ := p
  unfold lku
  by_cases h : j = i
  ·subst h; rw [Nat.beq_refl]; simp [dA]
  rw [gH h]
  simp only [cond_false, dA, map_cons, mem_cons, not_or]
  exact ih.trans ⟨fun a => ⟨h, a⟩, fun a => a.2⟩
theorem aD0 {n : Nat} {l : List Oper} {Q : Exit → Act → World → Prop} {w0 W : World} {E0 V : List (Nat × SV)} {f0 : Nat → Value} (hE : Fr E0 f0) {s : S} {d : D P R} (st : St w0 W s.rs) (fa : Facts w0 W s.B) :
  ∀ {js : List Nat} {k : Tr}, (rrT P n l E0 V s d js k).holds → (∀ j ∈ js, Pnd P n Q w0 l f0 V s W j) ∧ k.holds
 | [], k, h => ⟨fun j hj => (by cases hj), h⟩
 | j :: js, k, h => aW h fun o ho h => aW h fun x hx h => by
  obtain ⟨hg, h⟩ := h
  refine rZ h st fa fun v s3 d3 h3 e3 e4 fa3 q => ?_
  obtain ⟨hv, h4⟩ := h3
  obtain ⟨h5, h6⟩ := aD0 hE st fa h4
  refine ⟨fun j' hj' => ?_, h6⟩
  rcases mem_cons.1 hj' with rfl | hj'
  ·refine ⟨x, o, hx, ho, fun D f W' a b c d' e' st' hb => ?_⟩
   have hon : onR l f o = true := by
    unfold onR
    cases hgg : o.guard with
    | none => rfl
    | some p => rw [hgg] at hg; cases hg
   rw [hon]
   intro KK kk
   rw [← hv] at kk
   exact q (d := o.dst) (ty := o.type) (pos := o.pos) (af := o.after) (g := o.guard) (vM hE a b c d' e') st' hb (fun W'' _ hb2 => kk W'' hb2)
  exact h5 j' hj'
theorem aP2 {n : Nat} {l : List Oper} (ho : OrdOk n l) {Q : Exit → Act → World → Prop} {w0 : World} {E0 : List (Nat × SV)} {f0 : Nat → Value} (hE : Fr E0 f0) {K : List (Nat × SV) → S → D P R → Tr} {G : Prop} :
  ∀ {is : List Nat} {V : List (Nat × SV)} {s : S} {d : D P R} {W : World}, (drT P n l E0 is V s d K).holds → St w0 W s.rs → Facts w0 W s.B →
   (∀ is2 V2 s2 d2, Stg P n l E0 K is2 V2 s2 d2 → St w0 W s2.rs → Facts w0 W s2.B → s2.O = s.O → Ext V V2 → (∀ j, j ∈ dA V2 ∨ j ∈ is2 ↔ j ∈ dA V ∨ j ∈ is) → (∀ j ∈ is2, j ∈ is) → (∀ j ∈ dA V2, j ∈ dA V ∨ Pnd P n Q w0 l f0 V2 s2 W j) → G) → G := by
 intro is
 induction is with
 | nil => exact fun h st fa k => k [] _ _ _ h st fa rfl (Ext.refl _) (fun _ => Iff.rfl) (fun _ h => h) (fun j hj => .inl hj)
 | cons i is ih =>
  intro V s d W h st fa k
  refine aW h fun o hi h => ?_
  obtain ⟨hn, h⟩ := h
  have hn : lku V i = none := by simpa using hn
  refine grdD_ok ho hi h fun on V2 d2 h2 e2 hk2 hon => ?_
  have hn2 : lku V2 i = none := lku_none.2 fun hm => lku_none.1 hn ((hk2 i).1 hm)
  have mem3 : ∀ {v : SV} j, j ∈ dA ((i, v) :: V2) ∨ j ∈ is ↔ j ∈ dA V ∨ j ∈ i :: is := fun {v} j => by
   simp only [dA, map_cons, mem_cons]
   have := hk2 j
   simp only [dA] at this
   rw [this]
   constructor
   ·rintro ((h | h) | h)
    ·exact .inr (.inl h)
    ·exact .inl h
    exact .inr (.inr h)
   rintro (h | h | h)
   ·exact .inl (.inr h)
   ·exact .inl (.inl h)
   exact .inr h
  -- a step of what only reads, or is not done at all
  have go : ∀ {v : SV} {s3 : S} {d3 : D P R}, (drT P n l E0 is ((i, v) :: V2) s3 d3 K).holds → s3.O = s.O → Facts w0 W s3.B → Pnd P n Q w0 l f0 ((i, v) :: V2) s3 W i → G := fun {v s3 d3} h3 eO fa3 hp => by
   refine ih h3 (by rw [S.rs, eO]; exact st) fa3 fun is4 V4 s4 d4 g1 g2 g3 g4 g5 g6 g7 g8 => k is4 V4 s4 d4 g1 g2 g3 (g4.trans eO) (e2.trans ((Ext.new hn2).trans g5)) (fun j => (g6 j).trans (mem3 j)) (fun j hj => mem_cons_of_mem _ (g7 j hj)) fun j hj => ?_
   rcases g8 j hj with h | h
   ·simp only [dA, map_cons, mem_cons] at h
    rcases h with rfl | h
    ·exact .inr (hp.mono g5 ⟨[], by rw [g4]; rfl⟩ (Below.refl _ _))
    exact .inl ((hk2 j).1 h)
   exact .inr h
  cases on with
  | false =>
   refine go h2 rfl fa ⟨_, o, by unfold lku; rw [Nat.beq_refl]; rfl, hi, fun D f W' a b c d' e' st' hb => ?_⟩
   rw [hon D f b (d'.of_ext (Ext.new hn2))]
   exact rfl
  | true =>
   refine dZ h2 fun d2 h2 => ?_
   cases hx : isX o.op && aE9 l is i with
   | true =>
    rw [hx] at h2
    rw [Bool.and_eq_true] at hx
    refine k (i :: is) V2 s d2 ⟨o, _, hi, hn2, hx.2, h2, fun D f hd ha => hon D f hd ha⟩ st fa rfl e2 (fun j => ?_) (fun _ h => h) (fun j hj => .inl ((hk2 j).1 hj))
    rw [hk2 j]
   | false =>
    rw [hx] at h2
    refine rZ h2 st fa fun v s3 d3 h3 e3 e4 fa3 q => go h3 e4 fa3 ⟨_, o, by unfold lku; rw [Nat.beq_refl]; rfl, hi, fun D f W' a b c d' e' st' hb => ?_⟩
    have ha2 := d'.of_ext (Ext.new hn2)
    rw [hon D f b ha2]
    intro KK kk
    exact q (d := o.dst) (ty := o.type) (pos := o.pos) (af := o.after) (g := o.guard) (vM hE a b c ha2 e') (by rw [S.rs, ← e4]; exact st') hb (fun W'' _ hb2 => kk W'' hb2)
def IDr (P : Program) {A : Type} {R : A → Prop} (n : Nat) (Q : Exit → Act → World → Prop) (w0 : World) (l : List Oper) (E0 : List (Nat × SV)) (f0 : Nat → Value) (K : List (Nat × SV) → S → D P R → Tr) (D : Nat → Bool) (f : Nat → Value) (W : World) : Prop :=
 ∃ is V s d, Stg P n l E0 K is V s d ∧ St w0 W s.rs ∧ Facts w0 W s.B ∧ FIa l V D f ∧ FIb l f0 D f ∧ (∀ j, j < l.length → j ∈ dA V ∨ j ∈ is) ∧ (∀ j ∈ is, D j = false) ∧ (∀ j, D j = true → j ∈ dA V) ∧ ∀ j ∈ dA V, D j = false → Pnd P n Q w0 l f0 V s W j
theorem keepDr {n : Nat} {l : List Oper} (ho : OrdOk n l) {Q : Exit → Act → World → Prop} {w0 : World} {E0 : List (Nat × SV)} {f0 : Nat → Value} (hE : Fr E0 f0) {K : List (Nat × SV) → S → D P R → Tr} : KeepI P n Q l (IDr P n Q w0 l E0 f0 K) := by
 refine ⟨fun i o D f W hi hDi hd hc ⟨is, V, s, d, hs, st, fa, ha, hb, hcov, hnd, hkd, hp⟩ => ?_⟩
 have hil : i < l.length := (gsi_.1 hi).1
 have hc : wL l D := hc
 have setD_t : ∀ j, eK D i j = true → j = i ∨ D j = true := fun j h => by
  unfold eK at h
  by_cases hj : j = i
  ·exact .inl hj
  rw [gH hj] at h; exact .inr h
 have setD_f : ∀ j, j ≠ i → eK D i j = D j := fun j hj => by unfold eK; rw [gH hj]; rfl
 -- the frame behind it
 have frame : ∀ {V2 : List (Nat × SV)} {x : SV}, Ext V V2 → (∀ j, D j = true → j ∈ dA V) → lku V2 i = some x → FIa l V2 (eK D i) (dK f o.dst x.val) ∧ FIb l f0 (eK D i) (dK f o.dst x.val) := fun {V2 x} hV2 hk hx => by
  have hdo : bN l i = o.dst := by unfold bN; rw [hi]; rfl
  constructor
  ·intro j u t hu hj ht
   rcases setD_t j hj with rfl | hj
   ·rw [hx] at hu
    cases hu
    rw [hdo] at ht
    rw [ht]
    show upd f t x.val t = x.val
    unfold upd; rw [Nat.beq_refl]; rfl
   have hji : j ≠ i := fun e => by rw [e, hDi] at hj; cases hj
   obtain ⟨u0, h0, e0⟩ : ∃ u0, lku V j = some u0 ∧ u.val = u0.val := by
    cases hq : lku V j with
    | none => exact absurd (hk j hj) (lku_none.1 hq)
    | some u0 =>
     obtain ⟨u1, h1, h2⟩ := hV2 j u0 hq
     rw [hu] at h1; cases h1
     exact ⟨u0, rfl, h2⟩
   have hf := ha j u0 t h0 hj ht
   rw [e0, ← hf]
   cases hod : o.dst with
   | none => rfl
   | some t' =>
    show upd f t' x.val t = f t
    unfold upd
    have hjl : j < l.length := by
     unfold bN at ht
     cases hq : l[j]? with
     | none => rw [hq] at ht; cases ht
     | some o => exact (gsi_.1 hq).1
    rw [gH fun e => ho.ne j i t hjl hil hji ht (by rw [hdo, hod, e])]
    rfl
  intro t ht
  have h1 : f t = f0 t := hb t fun j hj => ht j (by
   by_cases hji : j = i
   ·rw [hji, hDi] at hj; cases hj
   rw [setD_f j hji]; exact hj)
  have h2 : bN l i ≠ some t := ht i (by unfold eK; rw [Nat.beq_refl]; rfl)
  rw [hdo] at h2
  rw [← h1]
  cases hod : o.dst with
  | none => rfl
  | some t' =>
   show upd f t' x.val t = f t
   unfold upd
   rw [gH fun e => h2 (by rw [hod, e])]
   rfl
 rcases hcov i hil with hik | his
 ·-- it has been read
  obtain ⟨x, o', hx, ho', hstep⟩ := hp i hik hDi
  rw [hi] at ho'
  cases ho'
  have hq := hstep D f W hDi hd hc ha hb st (Below.refl _ _)
  have next : ∀ W'', Below W.heap.size W W'' → IDr P n Q w0 l E0 f0 K (eK D i) (dK f o.dst x.val) W'' := fun W'' hb2 => by
   obtain ⟨fa1, fb1⟩ := frame (Ext.refl V) hkd hx
   have st2 : St w0 W'' s.rs := by simpa using st.call (St.of_below hb2)
   refine ⟨is, V, s, d, hs, st2, fa.up hb2, fa1, fb1, hcov, fun j hj => ?_, fun j hj => ?_, fun j hj hDj => ?_⟩
   ·rw [setD_f j fun e => ?_]
    ·exact hnd j hj
    subst e
    match is, hs, hj with
    | i0 :: is', ⟨o0, g0, h1, h2, h3, h4, h5⟩, hj =>
     rcases mem_cons.1 hj with e | hj
     ·subst e; exact lku_none.1 h2 hik
     unfold aE9 at h3
     rw [all_eq_true] at h3
     by_cases e : j = i0
     ·subst e; exact lku_none.1 h2 hik
     have := nK hc (h3 j hj) e hd
     rw [hnd i0 (by simp)] at this; cases this
   ·rcases setD_t j hj with rfl | hj
    ·exact hik
    exact hkd j hj
   have hji : j ≠ i := fun e => by rw [e] at hDj; unfold eK at hDj; rw [Nat.beq_refl] at hDj; cases hDj
   rw [setD_f j hji] at hDj
   exact (hp j hj hDj).mono (Ext.refl V) ⟨[], rfl⟩ hb2
  cases hon : onR l f o with
  | true =>
   rw [hon] at hq
   exact hq _ fun W'' hb2 => next W'' hb2
  | false =>
   rw [hon] at hq
   have hq : x.val = undef := hq
   have := next W (Below.refl _ _)
   rw [hq] at this
   exact this
 -- it is the one that is barred
 match is, hs, his, hcov, hnd with
 | i0 :: is', ⟨o0, g0, h1, h2, h3, h4, h5⟩, his, hcov, hnd =>
  unfold aE9 at h3
  rw [all_eq_true] at h3
  have hii : i = i0 := by
   rcases mem_cons.1 his with e | hm
   ·exact e
   apply Classical.byContradiction
   intro e
   have := nK hc (h3 i hm) e hd
   rw [hnd i0 (by simp)] at this; cases this
  subst hii
  rw [hi] at h1
  cases h1
  rw [h5 D f hd ha]
  refine aE3 (d := o.dst) (ty := o.type) (pos := o.pos) (af := o.after) (g := o.guard) h4 (vM hE hDi hd hc ha hb) st fa fun v s1 d1 W1 h6 e6 g6 st1 fa1 => ?_
  obtain ⟨hrr, h6⟩ := aD0 (Q := Q) hE st1 fa1 h6
  refine aP2 ho hE (Q := Q) h6 st1 fa1 fun is2 V2 s2 d2 k1 k2 k3 k4 k5 k6 k7 k8 => ?_
  obtain ⟨x, hx, ex⟩ := k5 i v (by unfold lku; rw [Nat.beq_refl]; rfl)
  have hext : Ext V V2 := (Ext.new h2).trans k5
  obtain ⟨fa2, fb2⟩ := frame hext hkd hx
  rw [ex] at fa2 fb2
  refine ⟨is2, V2, s2, d2, k1, k2, k3, fa2, fb2, fun j hj => ?_, fun j hj => ?_, fun j hj => ?_, fun j hj hDj => ?_⟩
  ·refine (k6 j).2 ?_
   rcases hcov j hj with h | h
   ·exact .inl (by simp only [dA, map_cons, mem_cons]; exact .inr h)
   rcases mem_cons.1 h with e | h
   ·exact .inl (by simp only [dA, map_cons, mem_cons]; exact .inl e)
   exact .inr h
  ·have hj' := k7 j hj
   by_cases e : j = i
   ·subst e
    have := (k6 j).1 (.inr hj)
    -- it stands among those that are read
    exfalso
    match is2, k1, hj with
    | i2 :: is3, ⟨o2, g2, q1, q2, q3, q4, q5⟩, hj =>
     have hjk : j ∈ dA V2 := Classical.byContradiction fun h => by
      rw [lku_none.2 h] at hx; cases hx
     rcases mem_cons.1 hj with e | hj
     ·subst e; exact lku_none.1 q2 hjk
     unfold aE9 at q3
     rw [all_eq_true] at q3
     by_cases e : j = i2
     ·subst e; exact lku_none.1 q2 hjk
     have hb2 := nK hc (q3 j hj) e hd
     rw [hnd i2 (mem_cons_of_mem _ (k7 i2 (by simp)))] at hb2; cases hb2
   rw [setD_f j e]
   exact hnd j (mem_cons_of_mem _ hj')
  ·have hjv : j ∈ dA ((i, v) :: V) := by
    simp only [dA, map_cons, mem_cons]
    rcases setD_t j hj with e | hj
    ·exact .inl e
    exact .inr (hkd j hj)
   apply Classical.byContradiction
   intro hno
   cases hq : lku ((i, v) :: V) j with
   | none => exact lku_none.1 hq hjv
   | some u =>
    obtain ⟨u', hu', _⟩ := k5 j u hq
    rw [lku_none.2 hno] at hu'; cases hu'
  rcases k8 j hj with h | h
  ·have hji : j ≠ i := fun e => by rw [e] at hDj; unfold eK at hDj; rw [Nat.beq_refl] at hDj; cases hDj
   rw [setD_f j hji] at hDj
   simp only [dA, map_cons, mem_cons] at h
   rcases h with e | h
   ·exact absurd e hji
   cases hg : g0 with
   | true =>
    obtain ⟨⟨N, hN⟩, hb1⟩ := g6 hg
    exact (hp j h hDj).mono hext ⟨N, by rw [k4, hN]⟩ hb1
   | false =>
    by_cases hcj : (aK9 l j).contains i = true
    ·have := nK hc hcj (fun e => hji e.symm) hd
     rw [hDj] at this; cases this
    refine (hrr j ?_).mono k5 ⟨[], by rw [k4]; rfl⟩ (Below.refl _ _)
    rw [hg]
    show j ∈ (dA V).filter _
    rw [mem_filter]
    exact ⟨h, by simpa using hcj⟩
  exact h
theorem pL {l : List Oper} {V E0 : List (Nat × SV)} {t : Nat} {x : SV} : ∀ {js : List Nat}, (∀ j ∈ js, j ∈ dA V) → lku (sK l V js ++ E0) t = some x → (∃ j, lku V j = some x ∧ bN l j = some t) ∨ (lku E0 t = some x ∧ ∀ j ∈ js, bN l j ≠ some t)
 | [], _, h => .inr ⟨h, fun j hj => by cases hj⟩
 | a :: js, hc, h => by
  have ih := pL (l := l) (E0 := E0) (t := t) (x := x) (js := js) fun j hj => hc j (mem_cons_of_mem _ hj)
  cases hda : bN l a with
  | none =>
   have e : sK l V (a :: js) = sK l V js := by simp [sK, hda]
   rw [e] at h
   rcases ih h with h | ⟨h1, h2⟩
   ·exact .inl h
   refine .inr ⟨h1, fun j hj => ?_⟩
   rcases mem_cons.1 hj with rfl | hj
   ·rw [hda]; exact fun e => by cases e
   exact h2 j hj
  | some d =>
   cases hv : lku V a with
   | none => exact absurd (hc a (by simp)) (lku_none.1 hv)
   | some v =>
    have e : sK l V (a :: js) = (d, v) :: sK l V js := by simp [sK, hda, hv]
    rw [e, cons_append] at h
    unfold lku at h
    by_cases htd : t = d
    ·subst htd
     rw [Nat.beq_refl] at h
     simp only [cond_true, Option.some.injEq] at h
     subst h
     exact .inl ⟨a, hv, hda⟩
    rw [gH htd] at h
    rcases ih h with h | ⟨h1, h2⟩
    ·exact .inl h
    refine .inr ⟨h1, fun j hj => ?_⟩
    rcases mem_cons.1 hj with rfl | hj
    ·rw [hda]; exact fun e => by cases e; exact htd rfl
    exact h2 j hj
theorem drawT_ok {w0 W : World} {n id : Nat} {l : List Oper} {s : S} {d : D P R} {K : S → D P R → Tr} {f : Nat → Value} {Q : Exit → Act → World → Prop} (h : (aO3 P n l s d K).holds) (den : Den w0 s f W) (k : ∀ s' d' f' W', (K s' d').holds → Den w0 s' f' W' → Q .normal (act n f') W') : (Code.region id l.toArray true).wp P Q (act n f) W := by
 refine kS h den fun s1 d1 h1 den1 => ?_
 obtain ⟨h2, h3, h4⟩ := h1
 rw [Bool.and_eq_true] at h2
 rw [all_eq_true] at h3
 have ho := OrdOk.of h2.2
 let K' : List (Nat × SV) → S → D P R → Tr := fun V s' d => K ⟨sK l V (List.range l.length) ++ s1.E, s'.O, s'.B, s'.nx⟩ d
 have hb0 : Below W.heap.size W { W with drawn := W.drawn + 1 } := (Below.refl _ _).drew
 refine tO l.length (IDr P n Q w0 l s1.E f K') h2.1 (by rw [take_length]; exact h2.2) (by rw [drop_length]; rfl) ?_ (by rw [take_length]; exact keepDr ho den1.fr) ?_
 ·have st0 : St w0 { W with drawn := W.drawn + 1 } s1.rs := by simpa using den1.st.call (St.of_below hb0)
  refine aP2 ho den1.fr (Q := Q) (K := K') h4 st0 (den1.fa.up hb0) fun is2 V2 s2 d2 k1 k2 k3 k4 k5 k6 k7 k8 => (⟨is2, V2, s2, d2, k1, k2, k3, fun j x d _ hD _ => (by cases hD), fun t _ => rfl, fun j hj => (k6 j).2 (.inr (by simpa using h3 j (mem_range.2 hj))), fun _ _ => rfl, fun j hD => (by cases hD), fun j hj _ => ?_⟩)
  rcases k8 j hj with h | h
  ·cases h
  exact h
 intro D g W' hD ⟨is, V, s2, d2, hs, st, fa, ha, hb, hcov, hnd, hkd, hp⟩
 rw [take_length] at hD
 rw [drop_length]
 match is, hs, hcov, hnd with
 | i0 :: is', ⟨o0, g0, q1, _⟩, hcov, hnd =>
  have := hD i0 (gsi_.1 q1).1
  rw [hnd i0 (by simp)] at this; cases this
 | [], hs, hcov, hnd =>
  have hs : (K' V s2 d2).holds := hs
  refine aB (k _ _ _ _ hs ⟨?_, st, fa⟩)
  have hc2 : ∀ j ∈ List.range l.length, j ∈ dA V := fun j hj => (hcov j (mem_range.1 hj)).elim (fun h => h) (fun h => by cases h)
  intro t x hx
  rcases pL hc2 hx with ⟨j, h5, h6⟩ | ⟨h5, h6⟩
  ·refine ha j x t h5 (hD j ?_) h6
   unfold bN at h6
   cases hq : l[j]? with
   | none => rw [hq] at h6; cases h6
   | some o => exact (gsi_.1 hq).1
  rw [hb t fun j hDj hj => h6 j ?_ hj]
  ·exact den1.fr t x h5
  unfold bN at hj
  cases hq : l[j]? with
  | none => rw [hq] at hj; cases hj
  | some o => exact mem_range.2 (gsi_.1 hq).1
end
end Go.Proofs.YtanpcpoogkdlaaaGreat
namespace Go.Proofs.YtanpcpoogkdlaaaGreat
set_option linter.unusedSimpArgs false
set_option linter.unusedVariables false
set_option maxHeartbeats 1000000
set_option maxHeartbeats 2000000
open Go.RowKit Go.Proofs.Tryz List
def zE (l : List Oper) : List Nat → Bool
 | [] => true
 | i :: is => (match l[i]? with
  | some o => !isX o.op || aE9 l is i
  | none => true) && zE l is
def aK8 (l : List Oper) (done : List Nat) (i : Nat) : Bool := (List.range l.length).all fun j => !dep l i j || done.contains j
def isQ (l : List Oper) (i : Nat) : Bool :=
 match l[i]? with
 | some o => !isX o.op
 | none => false
def aH1 (l : List Oper) (is done : List Nat) : Option Nat := is.find? fun i => aK8 l done i && isQ l i
def wo (is : List Nat) (i : Nat) : List Nat := is.filter fun j => !Nat.beq j i
theorem mem_wo {is : List Nat} {i j : Nat} : j ∈ wo is i ↔ j ∈ is ∧ j ≠ i := by
 unfold wo
 rw [mem_filter]
 by_cases h : j = i
 ·subst h; simp [Nat.beq_refl]
 simp [h, gH h]
def brA (f : Nat → Tr) : List Nat → Tr
 | [] => .ok
 | i :: is => .an (f i) (brA f is)
theorem aF0 {f : Nat → Tr} : ∀ {is : List Nat}, (brA f is).holds → ∀ i ∈ is, (f i).holds
 | [], _, i, hi => by cases hi
 | a :: is, h, i, hi => by
  rcases mem_cons.1 hi with rfl | hi
  ·exact h.1
  ·exact aF0 h.2 i hi
section
variable {P : Program} {A : Type} {R : A → Prop}
def brT (P : Program) {A : Type} {R : A → Prop} (n : Nat) (l : List Oper) (E0 : List (Nat × SV)) (base : Nat) (K : List (Nat × SV) → S → D P R → Tr) : Nat → List Nat → List (Nat × SV) → S → D P R → Tr
 | 0, _, _, _, _ => .no
 | m + 1, is, V, s, d => match aH1 l is (dA V) with
  | some i => opt (l[i]?) fun o => .e0 o.guard.isNone true <| qop P (lkD n l E0 V i) s o.op d fun v s d => brT P n l E0 base K m (wo is i) ((i, v) :: V) s d
  | none => match is with
   | [] => K V ⟨s.E, s.O, s.B, base + 20 * l.length⟩ d
   | _ :: _ => brA (fun i => opt (l[i]?) fun o => .e0 o.guard.isNone true <| .e0 (lku V i).isNone true <| nrm d fun d => eop P (aB1 o.op && !aK7 d) (lkD n l E0 V i) ⟨s.E, s.O, s.B, base + 20 * i⟩ o.op d fun v s d' =>
     rrT P n l E0 ((i, v) :: V) s d' (pnd l ((dA V).filter (isQ l)) i (aB1 o.op && !aK7 d)) (brT P n l E0 base K m (wo is i) ((i, v) :: V) s d')) (is.filter (aK8 l (dA V)))
def aO4 (P : Program) {A : Type} {R : A → Prop} (n : Nat) (l : List Oper) (s : S) (d : D P R) (K : S → D P R → Tr) : Tr :=
 prp d s fun s d => .e0 (P.follows .mixedOrders && oQ n l) true <|
  brT P n l s.E s.nx (fun V s' d => K ⟨sK l V (List.range l.length) ++ s.E, s'.O, s'.B, s'.nx⟩ d) (l.length + 1) (List.range l.length) [] s d
theorem zY {l : List Oper} {f : Nat → Value} {o : Oper} (h : o.guard.isNone = true) : onR l f o = true := by
 unfold onR
 cases hg : o.guard with
 | none => rfl
 | some p => rw [hg] at h; cases h
theorem aJ7 {n : Nat} {l : List Oper} {Q : Exit → Act → World → Prop} {w0 : World} {E0 : List (Nat × SV)} {f0 : Nat → Value} (hE : Fr E0 f0) {base : Nat} {K : List (Nat × SV) → S → D P R → Tr} {G : Prop} :
  ∀ {m : Nat} {is : List Nat} {V : List (Nat × SV)} {s : S} {d : D P R} {W : World}, (brT P n l E0 base K m is V s d).holds → St w0 W s.rs → Facts w0 W s.B → (∀ j ∈ is, j ∉ dA V) →
   (∀ m2 is2 V2 s2 d2, (brT P n l E0 base K m2 is2 V2 s2 d2).holds → aH1 l is2 (dA V2) = none → St w0 W s2.rs → Facts w0 W s2.B → s2.O = s.O → Ext V V2 → (∀ j, j ∈ dA V2 ∨ j ∈ is2 ↔ j ∈ dA V ∨ j ∈ is) → (∀ j ∈ is2, j ∉ dA V2) → (∀ j ∈ is2, j ∈ is) → (∀ j ∈ dA V2, j ∈ dA V ∨ isQ l j = true ∧ Pnd P n Q w0 l f0 V2 s2 W j) → G) → G := by
 intro m
 induction m with
 | zero => exact fun h _ _ _ _ => h.elim
 | succ m ih =>
  intro is V s d W h st fa hd k
  cases hq : aH1 l is (dA V) with
  | none => exact k (m + 1) is V s d h hq st fa rfl (Ext.refl V) (fun _ => Iff.rfl) hd (fun _ h => h) (fun j hj => .inl hj)
  | some i =>
   have h' := h
   unfold brT at h
   rw [hq] at h
   refine aW h fun o hi h => ?_
   obtain ⟨hg, h⟩ := h
   have his : i ∈ is := mem_of_find?_eq_some hq
   have hn : lku V i = none := lku_none.2 (hd i his)
   refine rZ h st fa fun v s3 d3 h3 e3 e4 fa3 q => ?_
   have mem3 : ∀ j, j ∈ dA ((i, v) :: V) ∨ j ∈ wo is i ↔ j ∈ dA V ∨ j ∈ is := fun j => by
    simp only [dA, map_cons, mem_cons, mem_wo]
    constructor
    ·rintro ((e | h) | ⟨h, _⟩)
     ·exact .inr (e ▸ his)
     ·exact .inl h
     exact .inr h
    rintro (h | h)
    ·exact .inl (.inr h)
    by_cases e : j = i
    ·exact .inl (.inl e)
    exact .inr ⟨h, e⟩
   have hd3 : ∀ j ∈ wo is i, j ∉ dA ((i, v) :: V) := fun j hj hm => by
    obtain ⟨h1, h2⟩ := mem_wo.1 hj
    simp only [dA, map_cons, mem_cons] at hm
    rcases hm with e | hm
    ·exact h2 e
    exact hd j h1 hm
   refine ih h3 (by rw [S.rs, e4]; exact st) fa3 hd3 fun m4 is4 V4 s4 d4 g1 g2 g3 g4 g5 g6 g7 g8 g9 g10 => k m4 is4 V4 s4 d4 g1 g2 g3 g4 (g5.trans e4) ((Ext.new hn).trans g6) (fun j => (g7 j).trans (mem3 j)) g8 (fun j hj => (mem_wo.1 (g9 j hj)).1) fun j hj => ?_
   rcases g10 j hj with h | h
   ·simp only [dA, map_cons, mem_cons] at h
    rcases h with rfl | h
    ·have hqq : isQ l j = true := by
      have := find?_some hq
      simp only [Bool.and_eq_true] at this
      exact this.2
     refine .inr ⟨hqq, Pnd.mono (V := (j, v) :: V) (s := s3) (W := W) ⟨v, o, by unfold lku; rw [Nat.beq_refl]; rfl, hi, fun D f W' a b c d' e' st' hb => ?_⟩ g6 ⟨[], by rw [g5]; rfl⟩ (Below.refl _ _)⟩
     have ha2 := d'.of_ext (Ext.new hn)
     rw [zY hg]
     intro KK kk
     exact q (d := o.dst) (ty := o.type) (pos := o.pos) (af := o.after) (g := o.guard) (vM hE a b c ha2 e') (by rw [S.rs, ← e4]; exact st') hb (fun W'' _ hb2 => kk W'' hb2)
    exact .inl h
   exact .inr h
def IBr (P : Program) {A : Type} {R : A → Prop} (n : Nat) (Q : Exit → Act → World → Prop) (w0 : World) (l : List Oper) (E0 : List (Nat × SV)) (f0 : Nat → Value) (base : Nat) (K : List (Nat × SV) → S → D P R → Tr) (D : Nat → Bool) (f : Nat → Value) (W : World) : Prop :=
 ∃ m is V s d, (brT P n l E0 base K m is V s d).holds ∧ aH1 l is (dA V) = none ∧ St w0 W s.rs ∧ Facts w0 W s.B ∧ FIa l V D f ∧ FIb l f0 D f ∧ (∀ j, j < l.length → j ∈ dA V ∨ j ∈ is) ∧ (∀ j ∈ is, j ∉ dA V) ∧ (∀ j ∈ is, D j = false) ∧ (∀ j, D j = true → j ∈ dA V) ∧ ∀ j ∈ dA V, D j = false → isQ l j = true ∧ Pnd P n Q w0 l f0 V s W j
theorem keepBr {n : Nat} {l : List Oper} (ho : OrdOk n l) {Q : Exit → Act → World → Prop} {w0 : World} {E0 : List (Nat × SV)} {f0 : Nat → Value} (hE : Fr E0 f0) {base : Nat} {K : List (Nat × SV) → S → D P R → Tr} : KeepI P n Q l (IBr P n Q w0 l E0 f0 base K) := by
 refine ⟨fun i o D f W hi hDi hd hc ⟨m, is, V, s, d, hs, hnq, st, fa, ha, hb, hcov, hdj, hnd, hkd, hp⟩ => ?_⟩
 have hil : i < l.length := (gsi_.1 hi).1
 have hc : wL l D := hc
 have setD_t : ∀ j, eK D i j = true → j = i ∨ D j = true := fun j h => by
  unfold eK at h
  by_cases hj : j = i
  ·exact .inl hj
  rw [gH hj] at h; exact .inr h
 have setD_f : ∀ j, j ≠ i → eK D i j = D j := fun j hj => by unfold eK; rw [gH hj]; rfl
 have frame : ∀ {V2 : List (Nat × SV)} {x : SV}, Ext V V2 → (∀ j, D j = true → j ∈ dA V) → lku V2 i = some x → FIa l V2 (eK D i) (dK f o.dst x.val) ∧ FIb l f0 (eK D i) (dK f o.dst x.val) := fun {V2 x} hV2 hk hx => by
  have hdo : bN l i = o.dst := by unfold bN; rw [hi]; rfl
  constructor
  ·intro j u t hu hj ht
   rcases setD_t j hj with rfl | hj
   ·rw [hx] at hu
    cases hu
    rw [hdo] at ht
    rw [ht]
    show upd f t x.val t = x.val
    unfold upd; rw [Nat.beq_refl]; rfl
   have hji : j ≠ i := fun e => by rw [e, hDi] at hj; cases hj
   obtain ⟨u0, h0, e0⟩ : ∃ u0, lku V j = some u0 ∧ u.val = u0.val := by
    cases hq : lku V j with
    | none => exact absurd (hk j hj) (lku_none.1 hq)
    | some u0 =>
     obtain ⟨u1, h1, h2⟩ := hV2 j u0 hq
     rw [hu] at h1; cases h1
     exact ⟨u0, rfl, h2⟩
   have hf := ha j u0 t h0 hj ht
   rw [e0, ← hf]
   cases hod : o.dst with
   | none => rfl
   | some t' =>
    show upd f t' x.val t = f t
    unfold upd
    have hjl : j < l.length := by
     unfold bN at ht
     cases hq : l[j]? with
     | none => rw [hq] at ht; cases ht
     | some o => exact (gsi_.1 hq).1
    rw [gH fun e => ho.ne j i t hjl hil hji ht (by rw [hdo, hod, e])]
    rfl
  intro t ht
  have h1 : f t = f0 t := hb t fun j hj => ht j (by
   by_cases hji : j = i
   ·rw [hji, hDi] at hj; cases hj
   rw [setD_f j hji]; exact hj)
  have h2 : bN l i ≠ some t := ht i (by unfold eK; rw [Nat.beq_refl]; rfl)
  rw [hdo] at h2
  rw [← h1]
  cases hod : o.dst with
  | none => rfl
  | some t' =>
   show upd f t' x.val t = f t
   unfold upd
   rw [gH fun e => h2 (by rw [hod, e])]
   rfl
 rcases hcov i hil with hik | his
 ·obtain ⟨hqi, x, o', hx, ho', hstep⟩ := hp i hik hDi
  rw [hi] at ho'
  cases ho'
  have hq := hstep D f W hDi hd hc ha hb st (Below.refl _ _)
  have next : ∀ W'', Below W.heap.size W W'' → IBr P n Q w0 l E0 f0 base K (eK D i) (dK f o.dst x.val) W'' := fun W'' hb2 => by
   obtain ⟨fa1, fb1⟩ := frame (Ext.refl V) hkd hx
   have st2 : St w0 W'' s.rs := by simpa using st.call (St.of_below hb2)
   refine ⟨m, is, V, s, d, hs, hnq, st2, fa.up hb2, fa1, fb1, hcov, hdj, fun j hj => ?_, fun j hj => ?_, fun j hj hDj => ?_⟩
   ·rw [setD_f j fun e => hdj j hj (e ▸ hik)]
    exact hnd j hj
   ·rcases setD_t j hj with rfl | hj
    ·exact hik
    exact hkd j hj
   have hji : j ≠ i := fun e => by rw [e] at hDj; unfold eK at hDj; rw [Nat.beq_refl] at hDj; cases hDj
   rw [setD_f j hji] at hDj
   exact ⟨(hp j hj hDj).1, (hp j hj hDj).2.mono (Ext.refl V) ⟨[], rfl⟩ hb2⟩
  cases hon : onR l f o with
  | true =>
   rw [hon] at hq
   exact hq _ fun W'' hb2 => next W'' hb2
  | false =>
   rw [hon] at hq
   have hq : x.val = undef := hq
   have := next W (Below.refl _ _)
   rw [hq] at this
   exact this
 -- one of those that are barred by none
 have hen : aK8 l (dA V) i = true := by
  unfold aK8
  rw [all_eq_true]
  intro j _
  cases hdp : dep l i j with
  | false => rfl
  | true => simpa using hkd j (hd j hdp)
 cases m with
 | zero => exact hs.elim
 | succ m =>
  unfold brT at hs
  rw [hnq] at hs
  match is, hs, his, hcov, hdj, hnd with
  | [], _, his, _, _, _ => cases his
  | i0 :: is0, hs, his, hcov, hdj, hnd =>
   have h1 := aF0 hs i (mem_filter.2 ⟨his, hen⟩)
   refine aW h1 fun o1 ho1 h2 => ?_
   rw [hi] at ho1
   cases ho1
   obtain ⟨hg, hn, h3⟩ := h2
   have hn : lku V i = none := by simpa using hn
   rw [zY hg]
   refine dZ h3 fun d' h4 => (aE3 (s := ⟨s.E, s.O, s.B, base + 20 * i⟩) (d := o.dst) (ty := o.type) (pos := o.pos) (af := o.after) (g := o.guard) h4 (vM hE hDi hd hc ha hb) st fa fun v s1 d1 W1 h6 e6 g6 st1 fa1 => ?_)
   obtain ⟨hrr, h6⟩ := aD0 (Q := Q) hE st1 fa1 h6
   have hd3 : ∀ j ∈ wo (i0 :: is0) i, j ∉ dA ((i, v) :: V) := fun j hj hm => by
    obtain ⟨h1, h2⟩ := mem_wo.1 hj
    simp only [dA, map_cons, mem_cons] at hm
    rcases hm with e | hm
    ·exact h2 e
    exact hdj j h1 hm
   refine aJ7 hE (Q := Q) h6 st1 fa1 hd3 fun m2 is2 V2 s2 d2 k1 k2 k3 k4 k5 k6 k7 k8 k9 k10 => ?_
   obtain ⟨x, hx, ex⟩ := k6 i v (by unfold lku; rw [Nat.beq_refl]; rfl)
   have hext : Ext V V2 := (Ext.new hn).trans k6
   obtain ⟨fa2, fb2⟩ := frame hext hkd hx
   rw [ex] at fa2 fb2
   refine ⟨m2, is2, V2, s2, d2, k1, k2, k3, k4, fa2, fb2, fun j hj => ?_, k8, fun j hj => ?_, fun j hj => ?_, fun j hj hDj => ?_⟩
   ·refine (k7 j).2 ?_
    rcases hcov j hj with h | h
    ·exact .inl (by simp only [dA, map_cons, mem_cons]; exact .inr h)
    by_cases e : j = i
    ·exact .inl (by simp only [dA, map_cons, mem_cons]; exact .inl e)
    exact .inr (mem_wo.2 ⟨h, e⟩)
   ·obtain ⟨h1, h2⟩ := mem_wo.1 (k9 j hj)
    rw [setD_f j h2]
    exact hnd j h1
   ·have hjv : j ∈ dA ((i, v) :: V) := by
     simp only [dA, map_cons, mem_cons]
     rcases setD_t j hj with e | hj
     ·exact .inl e
     exact .inr (hkd j hj)
    apply Classical.byContradiction
    intro hno
    cases hq : lku ((i, v) :: V) j with
    | none => exact lku_none.1 hq hjv
    | some u =>
     obtain ⟨u', hu', _⟩ := k6 j u hq
     rw [lku_none.2 hno] at hu'; cases hu'
   rcases k10 j hj with h | h
   ·have hji : j ≠ i := fun e => by rw [e] at hDj; unfold eK at hDj; rw [Nat.beq_refl] at hDj; cases hDj
    rw [setD_f j hji] at hDj
    simp only [dA, map_cons, mem_cons] at h
    rcases h with e | h
    ·exact absurd e hji
    cases hgg : (aB1 o.op && !aK7 d') with
    | true =>
     obtain ⟨⟨N, hN⟩, hb1⟩ := g6 hgg
     exact ⟨(hp j h hDj).1, (hp j h hDj).2.mono hext ⟨N, by rw [k5, hN]⟩ hb1⟩
    | false =>
     by_cases hcj : (aK9 l j).contains i = true
     ·have := nK hc hcj (fun e => hji e.symm) hd
      rw [hDj] at this; cases this
     refine ⟨(hp j h hDj).1, (hrr j ?_).mono k6 ⟨[], by rw [k5]; rfl⟩ (Below.refl _ _)⟩
     rw [hgg]
     show j ∈ ((dA V).filter (isQ l)).filter _
     rw [mem_filter, mem_filter]
     exact ⟨⟨h, (hp j h hDj).1⟩, by simpa using hcj⟩
   exact h
theorem drawB_ok {w0 W : World} {n id : Nat} {l : List Oper} {s : S} {d : D P R} {K : S → D P R → Tr} {f : Nat → Value} {Q : Exit → Act → World → Prop} (h : (aO4 P n l s d K).holds) (den : Den w0 s f W) (k : ∀ s' d' f' W', (K s' d').holds → Den w0 s' f' W' → Q .normal (act n f') W') : (Code.region id l.toArray true).wp P Q (act n f) W := by
 refine kS h den fun s1 d1 h1 den1 => ?_
 obtain ⟨h2, h4⟩ := h1
 rw [Bool.and_eq_true] at h2
 have ho := OrdOk.of h2.2
 let K' : List (Nat × SV) → S → D P R → Tr := fun V s' d => K ⟨sK l V (List.range l.length) ++ s1.E, s'.O, s'.B, s'.nx⟩ d
 have hb0 : Below W.heap.size W { W with drawn := W.drawn + 1 } := (Below.refl _ _).drew
 refine tO l.length (IBr P n Q w0 l s1.E f s1.nx K') h2.1 (by rw [take_length]; exact h2.2) (by rw [drop_length]; rfl) ?_ (by rw [take_length]; exact keepBr ho den1.fr) ?_
 ·have st0 : St w0 { W with drawn := W.drawn + 1 } s1.rs := by simpa using den1.st.call (St.of_below hb0)
  refine aJ7 den1.fr (Q := Q) (K := K') h4 st0 (den1.fa.up hb0) (fun j _ h => by cases h) fun m2 is2 V2 s2 d2 k1 k2 k3 k4 k5 k6 k7 k8 k9 k10 => ?_
  refine ⟨m2, is2, V2, s2, d2, k1, k2, k3, k4, fun j x d _ hD _ => (by cases hD), fun t _ => rfl, fun j hj => (k7 j).2 (.inr (mem_range.2 hj)), k8, fun _ _ => rfl, fun j hD => (by cases hD), fun j hj _ => ?_⟩
  rcases k10 j hj with h | h
  ·cases h
  exact h
 intro D g W' hD ⟨m, is, V, s2, d2, hs, hnq, st, fa, ha, hb, hcov, hdj, hnd, hkd, hp⟩
 rw [take_length] at hD
 rw [drop_length]
 cases m with
 | zero => exact hs.elim
 | succ m =>
  unfold brT at hs
  rw [hnq] at hs
  match is, hs, hcov, hnd with
  | i0 :: is', hs, hcov, hnd =>
   exfalso
   have hi0 := hnd i0 (by simp)
   by_cases hlt : i0 < l.length
   ·rw [hD i0 hlt] at hi0; cases hi0
   -- a number beyond the list bars nothing
   have hen : aK8 l (dA V) i0 = true := by
    unfold aK8
    rw [all_eq_true]
    intro j _
    have : dep l i0 j = false := by
     unfold dep
     rw [getElem?_eq_none aC]
     rfl
    rw [this]; rfl
   have h1 := aF0 hs i0 (mem_filter.2 ⟨by simp, hen⟩)
   rw [getElem?_eq_none aC] at h1
   exact h1.elim
  | [], hs, hcov, hnd =>
   have hs : (K' V ⟨s2.E, s2.O, s2.B, s1.nx + 20 * l.length⟩ d2).holds := hs
   refine aB (k _ _ _ _ hs ⟨?_, st, fa⟩)
   have hc2 : ∀ j ∈ List.range l.length, j ∈ dA V := fun j hj => (hcov j (mem_range.1 hj)).elim (fun h => h) (fun h => by cases h)
   intro t x hx
   rcases pL hc2 hx with ⟨j, h5, h6⟩ | ⟨h5, h6⟩
   ·refine ha j x t h5 (hD j ?_) h6
    unfold bN at h6
    cases hq : l[j]? with
    | none => rw [hq] at h6; cases h6
    | some o => exact (gsi_.1 hq).1
   rw [hb t fun j hDj hj => h6 j ?_ hj]
   ·exact den1.fr t x h5
   unfold bN at hj
   cases hq : l[j]? with
   | none => rw [hq] at hj; cases hj
   | some o => exact mem_range.2 (gsi_.1 hq).1
end
end Go.Proofs.YtanpcpoogkdlaaaGreat
namespace Go.Proofs.YtanpcpoogkdlaaaGreat
set_option linter.unusedSimpArgs false
set_option linter.unusedVariables false
set_option maxHeartbeats 1000000
set_option maxHeartbeats 2000000
open Go.RowKit Go.Proofs.Tryz List

/-! ### States of loops -/
def hdOf (O : List (Nat × Ob)) (B : List (Nat × Bool × Bo)) (j : Nat) : Hd :=
 match lku O j with
 | some (.own _ h _ _) => h
 | some (.row _ _ h _ _) => h
 | _ => match lku B j with
  | some (_, .sl _ h _ _) => h
  | _ => ⟨none, 0, 0⟩
def ptOf (O : List (Nat × Ob)) (B : List (Nat × Bool × Bo)) (j o : Nat) : Sc :=
 match lku O j with
 | some (.bx b pre _ _ _) => .pt j b pre.length o
 | _ => match lku B j with
  | some (_, .rg b k _) => .pt j b k o
  | some (_, .el _ _ _ b k _) => .pt j b k o
  | _ => .vl undef
def tcS (O : List (Nat × Ob)) (B : List (Nat × Bool × Bo)) : Tc → Sc
 | .v x => .vl x
 | .b e => .bo e
 | .p j o => ptOf O B j o
 | .r j => .rf j (hdOf O B j)
def tvS (O : List (Nat × Ob)) (B : List (Nat × Bool × Bo)) : Tv → SV
 | .c x => one (tcS O B x)
 | .a l => .on (.ag (l.map (tcS O B)))
def pick {α : Type u} : List Nat → List (Nat × α) → List (Nat × α)
 | [], _ => []
 | j :: js, O => match lku O j with
  | some o => (j, o) :: pick js O
  | none => pick js O
def aF8 (G : Nat → Hd × List Nat) : List (Nat × To) → List (Nat × Ob)
 | [] => []
 | (j, .own i xs) :: l => (j, .own i (G j).1 xs (G j).2) :: aF8 G l
 | (j, .row i e xs) :: l => (j, .row i e (G j).1 xs (G j).2) :: aF8 G l
 | (_, .bx _) :: l => aF8 G l
def toBx (s : S) (O1 : List (Nat × Ob)) : List (Nat × To) → List (Nat × Ob)
 | [] => []
 | (j, .bx cs) :: l => match lku s.O j with
  | some (.bx b pre _ post t) => (j, .bx b pre (cs.map (tcS O1 s.B)) post t) :: toBx s O1 l
  | _ => toBx s O1 l
 | _ :: l => toBx s O1 l
def ist (s : S) (ks ko kb : List Nat) (TE : List (Nat × Tv)) (TO : List (Nat × To)) (G : Nat → Hd × List Nat) : S :=
 let O1 := aF8 G TO ++ pick ko s.O
 let O2 := toBx s O1 TO ++ O1
 ⟨TE.map (fun p => (p.1, tvS O2 s.B p.2)) ++ pick ks s.E, O2, pick (999999 :: kb) s.B, s.nx⟩
def sgm (sg : List (Nat × Nat)) (j : Nat) : Nat := (lku sg j).getD j
def ghs (O : List (Nat × Ob)) (sg : List (Nat × Nat)) (j : Nat) : Hd × List Nat :=
 match lku O (sgm sg j) with
 | some (.own _ h _ fp) => (h, fp)
 | some (.row _ _ h _ fe) => (h, fe)
 | _ => (⟨none, 0, 0⟩, [])
def fitE (E : List (Nat × SV)) : List (Nat × SV) → Tr → Tr
 | [], k => k
 | (t, x) :: l, k => match lku E t with
  | some y => .e0 y.val x.val (fitE E l k)
  | none => .no
def fitB (B : List (Nat × Bool × Bo)) : List (Nat × Bool × Bo) → Tr → Tr
 | [], k => k
 | (j, l, b) :: r, k => match lku B j with
  | some (l', b') => .e1 b' b (.e0 (l' || !l) true (fitB B r k))
  | none => .no
def fitO (sg : List (Nat × Nat)) : List (Nat × Ob) → List (Nat × Ob) → Tr → Tr
 | _, [], k => k
 | O, (j, ob) :: r, k => match lku O (sgm sg j) with
  | some ob' => .e0 ob'.res ob.res (fitO sg (dT O (sgm sg j)) r k)
  | none => .no
def fit (s T : S) (sg : List (Nat × Nat)) (k : Tr) : Tr := fitE s.E T.E (fitB s.B T.B (fitO sg s.O T.O k))
theorem aI6 {E : List (Nat × SV)} {f : Nat → Value} (hf : Fr E f) : ∀ {T : List (Nat × SV)} {k : Tr}, (fitE E T k).holds → Fr T f ∧ k.holds
 | [], k, h => ⟨fun t x hx => (by cases hx), h⟩
 | (t, x) :: l, k, h => by
  unfold fitE at h
  split at h
  ·next y hy =>
   obtain ⟨h1, h2⟩ := h
   obtain ⟨h3, h4⟩ := aI6 hf h2
   exact ⟨h3.know t x ((hf t y hy).trans h1), h4⟩
  ·exact h.elim
theorem aI7 {w0 W : World} {B : List (Nat × Bool × Bo)} (hb : Below w0.heap.size w0 W) (fa : Facts w0 W B) : ∀ {T : List (Nat × Bool × Bo)} {k : Tr}, (fitB B T k).holds → Facts w0 W T ∧ k.holds
 | [], k, h => ⟨fun e he => (by cases he), h⟩
 | (j, l, b) :: r, k, h => by
  unfold fitB at h
  split at h
  ·next l' b' hj =>
   obtain ⟨rfl, h1, h2⟩ := h
   obtain ⟨h3, h4⟩ := aI7 hb fa h2
   refine ⟨fun e he => ?_, h4⟩
   rcases mem_cons.1 he with rfl | he
   ·have := fa _ (mA hj)
    cases l' with
    | true =>
     cases l with
     | true => exact this
     | false => exact Bo.up hb this
    | false =>
     cases l with
     | true => cases h1
     | false => exact this
   ·exact h3 e he
  ·exact h.elim
theorem aI5 {w0 W : World} {sg : List (Nat × Nat)} : ∀ {T O : List (Nat × Ob)} {k : Tr} {rs : List Res}, (fitO sg O T k).holds → St w0 W (Or O ++ rs) → St w0 W (Or T ++ rs) ∧ k.holds
 | [], O, k, rs, h, st => ⟨st.sub (sublist_append_right _ _), h⟩
 | (j, ob) :: r, O, k, rs, h, st => by
  unfold fitO at h
  split at h
  ·next ob' hj =>
   obtain ⟨h1, h2⟩ := h
   have st2 : St w0 W (Or (dT O (sgm sg j)) ++ (ob'.res :: rs)) := (st.take hj).perm perm_middle
   rw [h1] at st2
   obtain ⟨h3, h4⟩ := aI5 h2 st2
   exact ⟨h3.perm (perm_middle (a := ob.res) (l₁ := Or r) (l₂ := rs)).symm, h4⟩
  ·exact h.elim
theorem aE2 {w0 W : World} {s T : S} {sg : List (Nat × Nat)} {k : Tr} {f : Nat → Value} (h : (fit s T sg k).holds) (den : Den w0 s f W) : Den w0 T f W ∧ k.holds := by
 obtain ⟨h1, h⟩ := aI6 den.fr h
 obtain ⟨h2, h⟩ := aI7 den.st.below den.fa h
 have st : St w0 W (Or s.O ++ []) := by simpa [Or, S.rs] using den.st
 obtain ⟨h3, h⟩ := aI5 h st
 exact ⟨⟨h1, by simpa [Or, S.rs] using h3, h2⟩, h⟩
section
variable {P : Program} {A : Type} {R : A → Prop}
def unT (K : Exit → S → D P R → Tr) (c : (Exit → S → D P R → Tr) → S → D P R → Tr) : Nat → S → D P R → Tr
 | 0, _, _ => .no
 | m + 1, s, d => c (fun e s' d' => match e with
  | .normal => unT K c m s' d'
  | e => K e s' d') s d
def lpC {Γ : Type} (K : Exit → S → D P R → Tr) (c : (Exit → S → D P R → Tr) → S → D P R → Tr) (s : S) (J : Γ → Prop) (m : Γ → Nat) (ks ko kb : List Nat) (TE : Γ → List (Nat × Tv)) (TO : Γ → List (Nat × To)) (g : Γ) (sg : List (Nat × Nat)) (k : ∀ g, J g → Tok J m (m g) → D P R) : Tr :=
   .an (fit s (ist s ks ko kb (TE g) (TO g) (ghs s.O sg)) sg .ok) <|
    .fn fun g : Γ => .fp (J g) fun hJ => .fn fun G : Nat → Hd × List Nat => c (fun e s' d' => match e with
     | .normal => prp d' s' fun s' d' => match d' with
      | .nx (J := J') (m := m') (c := c') _ g' _ _ sg' => .e1 (⟨J', m', c'⟩ : Lsp) ⟨J, m, m g⟩ <| .fp ((⟨J', m', c'⟩ : Lsp) = ⟨J, m, m g⟩) fun he =>
        fit s' (ist s ks ko kb (TE (cast (congrArg Lsp.Γ he) g')) (TO (cast (congrArg Lsp.Γ he) g')) (ghs s'.O sg')) sg' .ok
      | _ => .no
     | e => K e s' d') (ist s ks ko kb (TE g) (TO g) G) (k g hJ ⟨⟩)
def jnT {Δ : Type} (s : S) (Je : Δ → Prop) (ks ko kb : List Nat) (TE : Δ → List (Nat × Tv)) (TO : Δ → List (Nat × To)) (s' : S) (d' : D P R) : Tr :=
 prp d' s' fun s' d' => match d' with
  | .xt Je' g' _ sg' => .e1 (⟨Je'⟩ : Jsp) ⟨Je⟩ <| .fp ((⟨Je'⟩ : Jsp) = ⟨Je⟩) fun he => fit s' (ist s ks ko kb (TE (cast (congrArg Jsp.Γ he) g')) (TO (cast (congrArg Jsp.Γ he) g')) (ghs s'.O sg')) sg' .ok
  | _ => .no
theorem aN4 {Δ : Type} {w0 W : World} {s : S} {Je : Δ → Prop} {ks ko kb : List Nat} {TE : Δ → List (Nat × Tv)} {TO : Δ → List (Nat × To)} {s' : S} {d' : D P R} {f : Nat → Value} (h : (jnT s Je ks ko kb TE TO s' d').holds) (den : Den w0 s' f W) :
  ∃ (g : Δ) (G : Nat → Hd × List Nat), Je g ∧ Den w0 (ist s ks ko kb (TE g) (TO g) G) f W := by
 refine kS h den fun s4 d4 h4 den4 => ?_
 split at h4
 ·next Δ' Je' g' hJ' sg' =>
  obtain ⟨he, h5⟩ := h4
  have h6 := h5 he
  cases he
  obtain ⟨den5, _⟩ := aE2 h6 den4
  exact ⟨g', _, hJ', den5⟩
 exact h4.elim
def jnK {Δ : Type} (K : Exit → S → D P R → Tr) (s : S) (ex : Nat) (Je : Δ → Prop) (ks ko kb : List Nat) (TE : Δ → List (Nat × Tv)) (TO : Δ → List (Nat × To)) : Exit → S → D P R → Tr
 | .exit i, s', d' => cond (Nat.beq i ex) (jnT s Je ks ko kb TE TO s' d') (K (.exit i) s' d')
 | e, s', d' => K e s' d'
def jcK {Δ : Type} (K : Exit → S → D P R → Tr) (s : S) (Je : Δ → Prop) (ks ko kb : List Nat) (TE : Δ → List (Nat × Tv)) (TO : Δ → List (Nat × To)) : Exit → S → D P R → Tr
 | .normal, s', d' => jnT s Je ks ko kb TE TO s' d'
 | e, s', d' => K e s' d'
def lpT (K : Exit → S → D P R → Tr) (c : (Exit → S → D P R → Tr) → S → D P R → Tr) (s : S) (d : D P R) : Tr :=
 prp d s fun s d => match d with
  | .lp J m ks ko kb TE TO g _ sg k => lpC K c s J m ks ko kb TE TO g sg k
  | .lx J m ks ko kb TE TO g _ sg k (Δ := Δ) Je ex ks2 ko2 kb2 TE2 TO2 k2 => .an (lpC (jnK K s ex Je ks2 ko2 kb2 TE2 TO2) c s J m ks ko kb TE TO g sg k) <|
    .fn fun g : Δ => .fp (Je g) fun hJ => .fn fun G : Nat → Hd × List Nat => K (.exit ex) (ist s ks2 ko2 kb2 (TE2 g) (TO2 g) G) (k2 g hJ)
  | .ul m k => unT K c m s k
  | _ => .no
def knw (c : Operand) (r : Bool) (s : S) : S :=
 match c with
 | .tmp t => ⟨(t, one (.vl (.bool r))) :: s.E, s.O, s.B, s.nx⟩
 | _ => s
def chk (P : Program) {A : Type} {R : A → Prop} (n : Nat) : Code → (Exit → S → D P R → Tr) → S → D P R → Tr
 | .skip, K => K .normal
 | .region _ ops dr, K => fun s d => cond dr (cond (zE ops.toList (wB ops.toList ops.toList.length [])) (aO3 P n ops.toList s d fun s d => K .normal s d) (aO4 P n ops.toList s d fun s d => K .normal s d)) (opsT P n ops.toList ops.toList s d fun s d => K .normal s d)
 | .seq a b, K => chk P n a fun e s d => match e with
  | .normal => chk P n b K s d
  | e => K e s d
 | .cond c a b, K => fun s d => prp d s fun s d => match d with
  | .jc (Δ := Δ) Je ks2 ko2 kb2 TE2 TO2 k k2 => .an (prp k s fun s0 d => opt (opd n s0 c) fun v => asC v fun x => bl x d fun r d => match r with
    | true => chk P n a (jcK K s Je ks2 ko2 kb2 TE2 TO2) (knw c true s0) d
    | false => chk P n b (jcK K s Je ks2 ko2 kb2 TE2 TO2) (knw c false s0) d) <|
    .fn fun g : Δ => .fp (Je g) fun hJ => .fn fun G : Nat → Hd × List Nat => K .normal (ist s ks2 ko2 kb2 (TE2 g) (TO2 g) G) (k2 g hJ)
  | d => opt (opd n s c) fun v => asC v fun x => bl x d fun r d => match r with
   | true => chk P n a K (knw c true s) d
   | false => chk P n b K (knw c false s) d
 | .block id c, K => chk P n c fun e s d => match e with
  | .exit i => cond (Nat.beq i id) (K .normal s d) (K (.exit i) s d)
  | e => K e s d
 | .loop c, K => lpT K (chk P n c)
 | .exit id, K => K (.exit id)
 | .ret, K => K .ret
 | _, _ => fun _ _ => .no
theorem aO9 {w0 : World} {n : Nat} : ∀ (c : Code) {K : Exit → S → D P R → Tr} {s : S} {d : D P R} {f : Nat → Value} {W : World} {Q : Exit → Act → World → Prop}, (chk P n c K s d).holds → Den w0 s f W →
  (∀ e s' d' f' W', (K e s' d').holds → Den w0 s' f' W' → Q e (act n f') W') → c.wp P Q (act n f) W := by
 intro c
 induction c with
 | skip => exact fun h den k => wp_skip (k _ _ _ _ _ h den)
 | region id ops dr =>
  intro K s d f W Q h den k
  cases dr with
  | true =>
   have h : (cond (zE ops.toList (wB ops.toList ops.toList.length [])) (aO3 P n ops.toList s d fun s d => K .normal s d) (aO4 P n ops.toList s d fun s d => K .normal s d)).holds := h
   cases hc : zE ops.toList (wB ops.toList ops.toList.length []) with
   | true =>
    rw [hc] at h
    have := drawT_ok (id := id) h den (fun s' d' f' W' h den => k .normal s' d' f' W' h den)
    simpa using this
   | false =>
    rw [hc] at h
    have := drawB_ok (id := id) h den (fun s' d' f' W' h den => k .normal s' d' f' W' h den)
    simpa using this
  | false =>
   have := aA (id := id) (yV (fun s' d' f' W' h den => k .normal s' d' f' W' h den) h den)
   simpa using this
 | seq a b iha ihb =>
  intro K s d f W Q h den k
  refine wp_seq (iha h den fun e s' d' f' W' h' den' => ?_)
  cases e with
  | normal => exact ihb h' den' k
  | exit id => exact k _ _ _ _ _ h' den'
  | goto l => exact k _ _ _ _ _ h' den'
  | ret => exact k _ _ _ _ _ h' den'
  | panic ch => exact k _ _ _ _ _ h' den'
  | outgrown => exact k _ _ _ _ _ h' den'
 | cond c a b iha ihb =>
  intro K s d f W Q h den k
  have step : ∀ {K' : Exit → S → D P R → Tr} {s1 : S} {d1 : D P R}, (opt (opd n s1 c) fun v => asC v fun x => bl x d1 fun r d => match r with
    | true => chk P n a K' (knw c true s1) d
    | false => chk P n b K' (knw c false s1) d).holds → Den w0 s1 f W → (∀ e s' d' f' W', (K' e s' d').holds → Den w0 s' f' W' → Q e (act n f') W') → (Code.cond c a b).wp P Q (act n f) W := by
   intro K' s1 d1 h1 den1 k'
   refine aW h1 fun v hv h2 => cX h2 fun x hx h3 => aJ2 h3 fun r d2 hr h4 => ?_
   subst hx
   have hc := (aD5 den1.fr c _ hv).trans hr
   have hk : Den w0 (knw c r s1) f W := by
    clear h4 h3 h2 h1 h
    cases c with
    | tmp t =>
     refine ⟨den1.fr.know t _ ?_, den1.st, den1.fa⟩
     have hv' : lku s1.E t = some (one x) := by
      simp only [opd] at hv
      cases hb : Nat.ble (t + 1) n with
      | true => rw [hb] at hv; exact hv
      | false => rw [hb] at hv; cases hv
     exact (den1.fr t _ hv').trans hr
    | const v => exact den1
    | global g => exact den1
    | func g => exact den1
   cases r with
   | true => exact cF hc (fun _ => iha h4 hk k') (fun h => by cases h)
   | false => exact cF hc (fun h => by cases h) (fun _ => ihb h4 hk k')
  refine kS h den fun s1 d1 h1 den1 => ?_
  split at h1
  ·next Δ Je ks2 ko2 kb2 TE2 TO2 kk k2 =>
   obtain ⟨h2, h3⟩ := h1
   refine kS h2 den1 fun s0 d0 h4 den0 => step h4 den0 fun e s' d' f' W' h' den' => ?_
   cases e with
   | normal =>
    obtain ⟨g, G, hJ, den5⟩ := aN4 h' den'
    exact k _ _ _ _ _ (h3 g hJ G) den5
   | exit i => exact k _ _ _ _ _ h' den'
   | goto l => exact k _ _ _ _ _ h' den'
   | ret => exact k _ _ _ _ _ h' den'
   | panic ch => exact k _ _ _ _ _ h' den'
   | outgrown => exact k _ _ _ _ _ h' den'
  exact step h1 den1 k
 | block id c ih =>
  intro K s d f W Q h den k
  refine wp_block (ih h den fun e s' d' f' W' h' den' => ?_)
  cases e with
  | exit i =>
   show if i = id then Q .normal _ _ else Q (.exit i) _ _
   have h' : (cond (Nat.beq i id) (K .normal s' d') (K (.exit i) s' d')).holds := h'
   by_cases hi : i = id
   ·rw [if_pos hi]
    subst hi
    rw [Nat.beq_refl] at h'
    exact k _ _ _ _ _ h' den'
   rw [if_neg hi]
   rw [gH hi] at h'
   exact k _ _ _ _ _ h' den'
  | normal => exact k _ _ _ _ _ h' den'
  | goto l => exact k _ _ _ _ _ h' den'
  | ret => exact k _ _ _ _ _ h' den'
  | panic ch => exact k _ _ _ _ _ h' den'
  | outgrown => exact k _ _ _ _ _ h' den'
 | loop c ih =>
  intro K s0 d0 f0 W0 Q h den k
  have step : ∀ {Γ : Type} {K' : Exit → S → D P R → Tr} {s : S} {J : Γ → Prop} {m : Γ → Nat} {ks ko kb : List Nat} {TE : Γ → List (Nat × Tv)} {TO : Γ → List (Nat × To)} {g0 : Γ} {sg : List (Nat × Nat)} {kk : ∀ g, J g → Tok J m (m g) → D P R}, J g0 →
    (lpC K' (chk P n c) s J m ks ko kb TE TO g0 sg kk).holds → Den w0 s f0 W0 → (∀ e s' d' f' W', e ≠ .normal → (K' e s' d').holds → Den w0 s' f' W' → Q e (act n f') W') → (Code.loop c).wp P Q (act n f0) W0 := by
   intro Γ K' s J m ks ko kb TE TO g0 sg kk hJ0 h1 den1 k'
   obtain ⟨h2, h3⟩ := h1
   obtain ⟨den2, _⟩ := aE2 h2 den1
   refine aQ (fun mm f W => ∃ (g : Γ) (G : Nat → Hd × List Nat), J g ∧ m g = mm ∧ Den w0 (ist s ks ko kb (TE g) (TO g) G) f W) (m g0) ⟨g0, _, hJ0, rfl, den2⟩ ?_
   rintro mm f W ⟨g, G, hJ, rfl, den3⟩
   refine ih (h3 g hJ G) den3 fun e s' d' f' W' h' den' => ?_
   cases e with
   | normal =>
    refine kS h' den' fun s4 d4 h4 den4 => ?_
    split at h4
    ·next Γ' J' m' c' t' g' hJ' hm' sg' =>
     obtain ⟨he, h5⟩ := h4
     have h6 := h5 he
     cases he
     obtain ⟨den5, _⟩ := aE2 h6 den4
     exact ⟨f', m g', hm', rfl, g', _, hJ', rfl, den5⟩
    exact h4.elim
   | exit i => exact k' _ _ _ _ _ (fun h => by cases h) h' den'
   | goto l => exact k' _ _ _ _ _ (fun h => by cases h) h' den'
   | ret => exact k' _ _ _ _ _ (fun h => by cases h) h' den'
   | panic ch => exact k' _ _ _ _ _ (fun h => by cases h) h' den'
   | outgrown => exact k' _ _ _ _ _ (fun h => by cases h) h' den'
  refine kS h den fun s d h1 den1 => ?_
  split at h1
  ·next hJ0 _ _ => exact step hJ0 h1 den1 fun e s' d' f' W' _ h' den' => k _ _ _ _ _ h' den'
  ·next Γ J m ks ko kb TE TO g0 hJ0 sg kk Δ Je ex ks2 ko2 kb2 TE2 TO2 k2 =>
   obtain ⟨h2, h3⟩ := h1
   refine step hJ0 h2 den1 fun e s' d' f' W' hne h' den' => ?_
   cases e with
   | normal => exact absurd rfl hne
   | exit i =>
    have h' : (cond (Nat.beq i ex) (jnT s Je ks2 ko2 kb2 TE2 TO2 s' d') (K (.exit i) s' d')).holds := h'
    by_cases hi : i = ex
    ·subst hi
     rw [Nat.beq_refl] at h'
     obtain ⟨g, G, hJ, den5⟩ := aN4 h' den'
     exact k _ _ _ _ _ (h3 g hJ G) den5
    rw [gH hi] at h'
    exact k _ _ _ _ _ h' den'
   | goto l => exact k _ _ _ _ _ h' den'
   | ret => exact k _ _ _ _ _ h' den'
   | panic ch => exact k _ _ _ _ _ h' den'
   | outgrown => exact k _ _ _ _ _ h' den'
  ·next m0 kk =>
   refine aQ (fun mm f W => ∃ (s : S) (d : D P R), (unT K (chk P n c) mm s d).holds ∧ Den w0 s f W) m0 ⟨s, kk, h1, den1⟩ ?_
   rintro mm f W ⟨s2, d2, h2, den2⟩
   cases mm with
   | zero => exact h2.elim
   | succ mm =>
    refine ih h2 den2 fun e s' d' f' W' h' den' => ?_
    cases e with
    | normal => exact ⟨f', mm, Nat.lt_succ_self _, rfl, s', d', h', den'⟩
    | exit i => exact k _ _ _ _ _ h' den'
    | goto l => exact k _ _ _ _ _ h' den'
    | ret => exact k _ _ _ _ _ h' den'
    | panic ch => exact k _ _ _ _ _ h' den'
    | outgrown => exact k _ _ _ _ _ h' den'
  exact h1.elim
 | exit id => exact fun h den k => wp_exit (k _ _ _ _ _ h den)
 | ret => exact fun h den k => wp_ret (k _ _ _ _ _ h den)
 | _ => intros; exact (by assumption : Tr.no.holds).elim
end
end Go.Proofs.YtanpcpoogkdlaaaGreat
namespace Go.Proofs.YtanpcpoogkdlaaaGreat
set_option linter.unusedSimpArgs false
set_option linter.unusedVariables false
set_option maxHeartbeats 1000000
set_option maxHeartbeats 2000000
open Go.RowKit Go.Proofs.Tryz List
section
variable {P : Program} {A : Type} {R : A → Prop}
/-! ### What comes in -/
def aB5 : List Par → Nat → S → (S → Tr) → Tr
 | [], _, s, K => K s
 | .v x :: ps, t, s, K => aB5 ps (t + 1) ⟨(t, one (sc x)) :: s.E, s.O, s.B, s.nx⟩ K
 | .b e :: ps, t, s, K => aB5 ps (t + 1) ⟨(t, one (.bo e)) :: s.E, s.O, s.B, s.nx⟩ K
 | .st i x :: ps, t, s, K => sG true (i.lv x) s fun cs s => aB5 ps (t + 1) ⟨(t, .on (.ag cs)) :: s.E, s.O, s.B, s.nx⟩ K
 | .sl i xs :: ps, t, s, K => .fn fun g : Hd × List Nat => aB5 ps (t + 1) ⟨(t, one (.rf s.nx g.1)) :: s.E, s.O, (s.nx, true, .sl i g.1 xs g.2) :: s.B, s.nx + 1⟩ K
theorem sS {w : World} : ∀ {ls : List Lf} {cs : List Value} {fp : List Nat}, eM w cs ls fp → lns ls
 | [], _, _, _ => trivial
 | .v x :: ls, [], _, h => h.elim
 | .s _ _ _ :: ls, [], _, h => h.elim
 | .v x :: ls, c :: cs, fp, h => sS (ls := ls) h.2
 | .s _ _ ys :: ls, c :: cs, fp, h => by
  obtain ⟨f1, f2, h1, h2, _⟩ := h
  exact ⟨h1.len_le, sS h2⟩
theorem lG {G : Prop} {w W : World} {f : Nat → Value} : ∀ {ps : List Par} {us : List Value} {t : Nat} {s : S} {K : S → Tr}, (aB5 ps t s K).holds → Pars w us ps → (∀ k v, us[k]? = some v → f (t + k) = v) → Den w s f W →
  (∀ s', (K s').holds → Den w s' f W → gin ps → G) → G
 | [], [], t, s, K, h, hp, hu, den, k => k s h den trivial
 | [], _ :: _, t, s, K, h, hp, hu, den, k => hp.elim
 | p :: ps, [], t, s, K, h, hp, hu, den, k => by cases p <;> exact hp.elim
 | p :: ps, u :: us, t, s, K, h, hp, hu, den, k => by
  have h0 : f t = u := hu 0 u rfl
  have hu' : ∀ k v, us[k]? = some v → f (t + 1 + k) = v := fun k v hk => by
   rw [Nat.add_assoc, Nat.add_comm 1 k]; exact hu (k + 1) v (by simpa using hk)
  cases p with
  | v x =>
   obtain ⟨rfl, hp⟩ := hp
   exact lG (t := t + 1) (us := us) h hp hu' ⟨den.fr.know t (one (sc u)) (h0.trans (jR u).symm), den.st, den.fa⟩ k
  | b e =>
   obtain ⟨rfl, hp⟩ := hp
   exact lG (t := t + 1) (us := us) h hp hu' ⟨den.fr.know t (one (.bo e)) h0, den.st, den.fa⟩ k
  | st i x =>
   obtain ⟨⟨cs, fp, rfl, hc⟩, hp⟩ := hp
   obtain ⟨hg, hc⟩ := i.out hc
   refine nZ (l := true) (w0 := w) (W := W) h hc den.fa fun scs s1 h1 e1 e2 e3 fa' => (lG (t := t + 1) (us := us) h1 hp hu' ⟨?_, by rw [S.rs, e3]; exact den.st, fa'⟩ fun s' h' den' hg' => k s' h' den' ⟨⟨hg, sS hc⟩, hg'⟩)
   refine Fr.know (by rw [e2]; exact den.fr) t _ (h0.trans ?_)
   show Value.agg cs.toArray = .agg (scs.map Sc.val).toArray
   rw [e1]
  | sl i xs =>
   obtain ⟨⟨fp, hs⟩, hp⟩ := hp
   obtain ⟨hd, rfl, hn⟩ := hs.hd
   refine lG (t := t + 1) (us := us) (h (hd, fp)) hp hu' ⟨den.fr.know t _ h0, den.st, fun e he => ?_⟩ fun s' h' den' hg' => k s' h' den' ⟨hs.len_le, hg'⟩
   rcases mem_cons.1 he with rfl | he
   ·exact hs
   ·exact den.fa e he
theorem entT_ok {G : Prop} {w : World} {f : Nat → Value} {ps : List Par} {us : List Value} {t : Nat} {s : S} {K : S → Tr} (h : (aB5 ps t s K).holds) (hp : Pars w us ps) (hu : ∀ k v, us[k]? = some v → f (t + k) = v) (den : Den w s f w) (k : ∀ s', (K s').holds → Den w s' f w → gin ps → G) : G := lG h hp hu den k
/-! ### What goes out -/
def rgd : List Rk → Prop
 | [] => True
 | .own i x :: ks => i.good x ∧ rgd ks
 | _ :: ks => rgd ks
def resT (P : Program) (n : Nat) (s : S) (r : ResultVar) (K : TV → Tr) : Tr :=
 match r with
 | .tmp t => opt (opd n s (.tmp t)) fun v => match v with
  | .on v => K v
  | _ => .no
 | .cell a t => opt (opd n s (.tmp a)) fun v => asC v fun c => ldT P s t c fun v => match v with
  | .on v => K v
  | _ => .no
def aD1 (tmps : Array Value) : ResultVar → Sem Value
 | .tmp t => pure (tmps.getD t undef)
 | .cell a t => do loadVar t (← asAddr (tmps.getD a undef))
theorem ldT_run {G : Prop} {w0 W : World} {s : S} {t : TypeId} {c : Sc} {K : SV → Tr} (h : (ldT P s t c K).holds) (st : St w0 W s.rs) (fa : Facts w0 W s.B) (k : ∀ v a, c.val = .pointer (some a) → (loadVar t a).run P W = .ok v.val W → (K v).holds → G) : G := by
 unfold ldT at h
 split at h
 ·next j b0 k0 o =>
  refine aW h fun r hr h => ?_
  obtain ⟨b, kk, cs⟩ := r
  obtain ⟨h1, h2, h⟩ := h
  simp only at h1 h2
  subst h1 h2
  have hrg := yR hr st fa
  refine aW h fun z hz h => ?_
  cases z with
  | none =>
   refine aW h fun v hvv h => k _ _ rfl ?_ h
   have := vO (P := P) (cs := [v.val]) (o := k0 + o) (b := b0) (W := W) hz (by
    intro q u hj
    cases q with
    | zero =>
     simp at hj; subst hj
     exact hrg o _ (by rw [getElem?_map]; simp only at hvv; rw [hvv]; rfl)
    | succ j => simp at hj) rfl
   simp [Instr.loadAt, Instr.sureAddr, Sem.run_bind] at this
   exact this
  | some z =>
   obtain ⟨h1, h⟩ := h
   simp only at h1
   refine k _ _ rfl ?_ h
   have h5 := pE (i := o) (z := z) hrg
   have := vO (P := P) (cs := ((cs.drop o).take z).map Sc.val) (o := k0 + o) (b := b0) (W := W) hz (by simpa [map_take, map_drop] using h5) (by simpa using h1)
   simp only [Instr.loadAt, Instr.sureAddr, Sem.run_bind, Sem.run_pure, Result.andThen_ok] at this
   exact this
 exact h.elim
theorem resT_ok {G : Prop} {w0 W : World} {n : Nat} {s : S} {r : ResultVar} {K : TV → Tr} {f : Nat → Value} (h : (resT P n s r K).holds) (den : Den w0 s f W) (k : ∀ v, (aD1 (act n f).tmps r).run P W = .ok v.val W → (K v).holds → G) : G := by
 have hg : ∀ t v, opd n s (.tmp t) = some v → (act n f).tmps.getD t undef = v.val := fun t v hv => by
  rw [tW]; exact aD5 den.fr (.tmp t) v hv
 cases r with
 | tmp t =>
  refine aW h fun v hv h => ?_
  split at h
  ·next v =>
   refine k v ?_ h
   simp only [aD1, hg t _ hv]
   rfl
  exact h.elim
 | cell a t =>
  refine aW h fun v hv h' => cX h' fun c hc h => ?_
  subst hc
  refine ldT_run h den.st den.fa fun v ad e hl h => ?_
  split at h
  ·next v =>
   refine k v ?_ h
   simp only [aD1, hg a _ hv]
   have : (SV.on (TV.ce c)).val = .pointer (some ad) := e
   rw [this]
   simp [asAddr, Sem.run_bind]
   exact hl
  exact h.elim
def resA (P : Program) (n : Nat) (s : S) : List ResultVar → (List TV → Tr) → Tr
 | [], K => K []
 | r :: rs, K => resT P n s r fun v => resA P n s rs fun vs => K (v :: vs)
theorem yS {G : Prop} {w0 W : World} {n : Nat} {s : S} {f : Nat → Value} (den : Den w0 s f W) : ∀ {rs : List ResultVar} {K : List TV → Tr}, (resA P n s rs K).holds → (∀ vs, (rs.mapM (aD1 (act n f).tmps)).run P W = .ok (vs.map TV.val) W → (K vs).holds → G) → G
 | [], K, h, k => k [] rfl h
 | r :: rs, K, h, k => resT_ok h den fun v hv h => yS den (K := fun vs => K (v :: vs)) h fun vs hvs h => k (v :: vs) (by
   simp [mapM_cons, Sem.run_bind, hv, hvs]) h
theorem tE {fn : Func} {tmps : Array Value} {vs : List Value} {W : World} (h : (fn.results.toList.mapM (aD1 tmps)).run P W = .ok vs W) : (results fn tmps).run P W = .ok (wO vs) W := by
 have e : results fn tmps = (do let vs ← fn.results.mapM (aD1 tmps); pure (if h : vs.size = 1 then vs[0] else .tuple vs)) := by
  unfold results
  congr 1
 rw [e, Array.mapM_eq_mapM_toList, Sem.run_bind]
 have h2 : (List.toArray <$> fn.results.toList.mapM (aD1 tmps)).run P W = .ok vs.toArray W := by
  rw [map_eq_pure_bind, Sem.run_bind, h]; rfl
 rw [h2]
 show Result.ok _ W = _
 congr 1
 match vs with
 | [] => rfl
 | [v] => rfl
 | _ :: _ :: _ => rfl
def rkT : List TV → List Rk → List (Nat × Ob) → (List (Nat × Ob) → Tr) → Tr
 | [], [], O, K => K O
 | .ce c :: ts, .v x :: ks, O, K => .e0 c.val x (rkT ts ks O K)
 | .ag cs :: ts, .own i x :: ks, O, K => jN O cs (i.lv x) fun O' => rkT ts ks O' K
 | .ce c :: ts, .sl i xs :: ks, O, K => jN O [c] [.s _ i xs] fun O' => rkT ts ks O' K
 | .ce c :: ts, .rw i e xs :: ks, O, K => ctk O [c] [.r i e xs] fun O' => rkT ts ks O' K
 | .ag cs :: ts, .cl ls :: ks, O, K => ctk O cs ls fun O' => rkT ts ks O' K
 | _, _, _, _ => .no
theorem aM2 {w0 W : World} : ∀ {ts : List TV} {ks : List Rk} {O : List (Nat × Ob)} {K : List (Nat × Ob) → Tr} {rs : List Res}, (rkT ts ks O K).holds → rgd ks → St w0 W (Or O ++ rs) → ∃ r O', (K O').holds ∧ Rks (ts.map TV.val) ks r ∧ St w0 W (Or O' ++ (r ++ rs)) := by
 intro ts
 induction ts with
 | nil =>
  intro ks O K rs h hg st
  cases ks with
  | nil => exact ⟨[], O, h, rfl, st⟩
  | cons => exact h.elim
 | cons t ts ih =>
  intro ks O K rs h hg st
  cases ks with
  | nil => cases t <;> exact h.elim
  | cons kk ks =>
   have mid : ∀ {O' : List (Nat × Ob)} {r : List Res} {x : Res}, St w0 W (Or O' ++ (r ++ (x :: rs))) → St w0 W (Or O' ++ ((x :: r) ++ rs)) := fun {O' r x} h => h.perm ((perm_middle (a := x) (l₁ := r) (l₂ := rs)).symm.append_left (Or O'))
   cases t with
   | ce c =>
    cases kk with
    | v x =>
     obtain ⟨h1, h2⟩ := h
     obtain ⟨r, O', hK, h3, h4⟩ := ih h2 hg st
     exact ⟨r, O', hK, ⟨[], r, ⟨h1, rfl⟩, h3, rfl⟩, h4⟩
    | own i x => exact h.elim
    | cl ls => exact h.elim
    | rw i e xs =>
     obtain ⟨r1, O', h', hl, st1⟩ := sP h st
     obtain ⟨fe, r2, rfl, hl2⟩ := hl
     have hl2 : r2 = [] := hl2
     subst hl2
     obtain ⟨r, O2, hK, h3, h4⟩ := ih h' hg st1
     exact ⟨Res.row e c.val xs fe :: r, O2, hK, ⟨[_], r, ⟨fe, rfl⟩, h3, rfl⟩, mid h4⟩
    | sl i xs =>
     refine eN h st fun O' fp h' st' => ?_
     obtain ⟨f1, f2, st2⟩ := St.s_pc st'
     have st3 := st2.d0
     obtain ⟨r, O2, hK, h3, h4⟩ := ih h' hg (rs := Res.own c.val xs f1 :: rs) (st3.perm perm_middle)
     exact ⟨Res.own c.val xs f1 :: r, O2, hK, ⟨[_], r, ⟨f1, rfl⟩, h3, rfl⟩, mid h4⟩
   | ag cs =>
    cases kk with
    | v x => exact h.elim
    | sl i xs => exact h.elim
    | rw i e xs => exact h.elim
    | cl ls =>
     obtain ⟨r1, O', h', hl, st1⟩ := sP h st
     obtain ⟨r, O2, hK, h3, h4⟩ := ih h' hg st1
     refine ⟨r1 ++ r, O2, hK, ⟨r1, r, ⟨_, rfl, hl⟩, h3, rfl⟩, ?_⟩
     refine h4.perm (List.Perm.append_left (Or O2) ?_)
     rw [append_assoc, ← append_assoc r r1 rs, ← append_assoc r1 r rs]
     exact (perm_append_comm (l₁ := r1) (l₂ := r)).append_right rs
    | own i x =>
     refine eN h st fun O' fp h' st' => ?_
     have st2 := St.pc_cs i st' hg.1
     obtain ⟨r, O2, hK, h3, h4⟩ := ih h' hg.2 (rs := @Res.cs _ i.toShape (cs.map Sc.val) x fp :: rs) (st2.perm perm_middle)
     exact ⟨_ :: r, O2, hK, ⟨[_], r, ⟨_, fp, rfl, rfl⟩, h3, rfl⟩, mid h4⟩
def retT (P : Program) {A : Type} {R : A → Prop} (rk : A → List Rk) (n : Nat) (rs : List ResultVar) (s : S) (d : D P R) : Tr :=
 prp d s fun s d => match d with
  | .rt a _ => resA P n s rs fun ts => rkT ts (rk a) s.O fun _ => .ok
  | _ => .no
def grB : Option Gr → List (Nat × Bool × Bo)
 | none => []
 | some g => [(999999, true, .gr g)]
theorem grB_ok {G : Option Gr} {w : World} (h : Gin G w) : Facts w w (grB G) := by
 cases G with
 | none => intro e he; cases he
 | some g =>
  intro e he
  simp only [grB, mem_singleton] at he
  subst he
  exact h
def vcT (P : Program) (fn : Func) (G : Option Gr) (ps : List Par) {A : Type} {R : A → Prop} (rk : A → List Rk) (d : gin ps → D P (fun a => R a ∧ rgd (rk a))) : Tr :=
 .e0 (Nat.ble ps.length fn.ntmps) true <| match fn.body with
  | some c => aB5 ps 0 ⟨[], [], grB G, 0⟩ fun s => .fp (gin ps) fun hg => chk P fn.ntmps c (fun e s d => match e with
   | .ret => retT P rk fn.ntmps fn.results.toList s d
   | .normal => retT P rk fn.ntmps fn.results.toList s d
   | _ => .no) s (d hg)
  | none => .no
theorem Pars.len {w : World} : ∀ {us : List Value} {ps : List Par}, Pars w us ps → us.length = ps.length
 | [], [], _ => rfl
 | [], p :: _, h => by cases p <;> exact h.elim
 | _ :: _, [], h => h.elim
 | u :: us, p :: ps, h => by
  cases p <;> exact congrArg (· + 1) (Pars.len h.2)
theorem vcg {F : FuncId} {fn : Func} {ps : List Par} {rk : A → List Rk} (G : Option Gr) (hf : P.funcs[F]? = some fn) (d : gin ps → D P (fun a => R a ∧ rgd (rk a))) (h : (vcT P fn G ps rk d).side true = (vcT P fn G ps rk d).side false) : Cg P F G ps R rk := by
 have h := Tr.of_side h
 obtain ⟨h1, h⟩ := h
 refine ⟨fun w us hG hp => ?_⟩
 split at h
 ·next c hb =>
  have hl : us.length ≤ fn.ntmps := by rw [hp.len]; exact Nat.le_of_ble_eq_true h1
  refine enter us hf hb rfl hl ?_
  refine entT_ok (t := 0) h hp (f := fun t => us.getD t undef) (fun k v hk => by
   show us.getD (0 + k) undef = v
   rw [Nat.zero_add, getD_eq_getElem?_getD, hk]; rfl) ⟨fun t x hx => (by cases hx), St.start w, grB_ok hG⟩ fun s' h' den' hg => ?_
  have hret : ∀ {s : S} {d : D P (fun a => R a ∧ rgd (rk a))} {f : Nat → Value} {W : World}, (retT P rk fn.ntmps fn.results.toList s d).holds → Den w s f W → ∃ v, (results fn (act fn.ntmps f).tmps).run P W = .ok v W ∧ ∃ a vs rs, R a ∧ Ending.returned v = .returned (wO vs) ∧ Rks vs (rk a) rs ∧ St w W rs := by
   intro s d f W h den
   refine kS h den fun s1 d1 h1 den1 => ?_
   split at h1
   ·next a ha =>
    refine yS den1 h1 fun ts hts h2 => ?_
    have st : St w W (Or s1.O ++ []) := by simpa [Or, S.rs] using den1.st
    obtain ⟨r, O', _, h3, h4⟩ := aM2 h2 ha.2 st
    exact ⟨_, tE hts, a, _, r, ha.1, rfl, h3, h4.sub (by rw [append_nil]; exact sublist_append_right _ _)⟩
   exact h1.elim
  refine aO9 c (h' hg) den' fun e s2 d2 f2 W2 h2 den2 => ?_
  cases e with
  | ret => exact ⟨rfl, hret h2 den2⟩
  | normal => exact ⟨rfl, hret h2 den2⟩
  | exit i => exact h2.elim
  | goto l => exact h2.elim
  | panic ch => exact h2.elim
  | outgrown => exact h2.elim
 exact h.elim
theorem vc {F : FuncId} {fn : Func} {ps : List Par} {rk : A → List Rk} (hf : P.funcs[F]? = some fn) (d : gin ps → D P (fun a => R a ∧ rgd (rk a))) (h : (vcT P fn none ps rk d).side true = (vcT P fn none ps rk d).side false) : Ct P F ps R rk := vcg none hf d h
/-! ### Functions that are handed a pointer -/
def Res.all (rs : List Res) : Res where
 fp := rs.flatMap Res.fp
 holds := fun W => ∀ r ∈ rs, r.holds W
 loc := fun hs hb h r hr => r.loc hs (fun b hm => hb b (mem_flatMap.2 ⟨r, hr, hm⟩)) (h r hr)
 wr := fun h b hb => by
  obtain ⟨r, hr, hm⟩ := mem_flatMap.1 hb
  exact r.wr (h r hr) b hm
theorem St.all_in {w W : World} {a rs : List Res} (h : St w W (a ++ rs)) : St w W (a ++ [Res.all rs]) := by
 refine ⟨h.below, by simpa [Res.all] using h.nodup, fun r hr b hb => ?_, fun r hr => ?_⟩
 ·rcases mem_append.1 hr with hr | hr
  ·exact h.fresh r (mem_append_left _ hr) b hb
  simp only [mem_singleton] at hr
  subst hr
  obtain ⟨q, hq, hm⟩ := mem_flatMap.1 (show b ∈ rs.flatMap Res.fp from hb)
  exact h.fresh q (mem_append_right _ hq) b hm
 rcases mem_append.1 hr with hr | hr
 ·exact h.holds r (mem_append_left _ hr)
 simp only [mem_singleton] at hr
 subst hr
 exact fun q hq => h.holds q (mem_append_right _ hq)
theorem St.all_out {w W : World} {a rs : List Res} (h : St w W (a ++ [Res.all rs])) : St w W (a ++ rs) := by
 refine ⟨h.below, by simpa [Res.all] using h.nodup, fun r hr b hb => ?_, fun r hr => ?_⟩
 ·rcases mem_append.1 hr with hr | hr
  ·exact h.fresh r (mem_append_left _ hr) b hb
  exact h.fresh (Res.all rs) (by simp) b (mem_flatMap.2 ⟨r, hr, hb⟩)
 rcases mem_append.1 hr with hr | hr
 ·exact h.holds r (mem_append_left _ hr)
 exact h.holds (Res.all rs) (by simp) r hr
def bigN : Nat := 1000000
/-! ### Functions that are handed what is their caller's own -/
def retO (P : Program) {A : Type} {R : A → Prop} (rk : A → List Rk) (n : Nat) (rs : List ResultVar) (r : Res) (s : S) (d : D P R) : Tr :=
 prp d s fun s d => match d with
  | .rt a _ => resA P n s rs fun ts => rkT ts (rk a) s.O fun O2 => match lku O2 bigN with
   | some (.raw r') => .e0 r' r .ok
   | _ => .no
  | _ => .no
def vcoT (P : Program) (fn : Func) (ow : List Lr) (ag : Bool) (ps : List Par) {A : Type} {R : A → Prop} (rk : A → List Rk) (d : gin ps → lrs ow → D P (fun a => R a ∧ rgd (rk a))) : Tr :=
 .e0 (Nat.ble (ps.length + 1) fn.ntmps) true <| match fn.body with
  | some c => .fn fun r : Res => crb ow ⟨[], [(bigN, .raw r)], [], 0⟩ fun scs s =>
    aB5 ps 1 ⟨[(0, cond ag (.on (.ag scs)) (one (scs.headD (.vl undef))))], s.O, s.B, s.nx⟩ fun s => .fp (gin ps) fun hg => .fp (lrs ow) fun hn => chk P fn.ntmps c (fun e s d => match e with
     | .ret => retO P rk fn.ntmps fn.results.toList r s d
     | .normal => retO P rk fn.ntmps fn.results.toList r s d
     | _ => .no) s (d hg hn)
  | none => .no
theorem vco {F : FuncId} {fn : Func} {ow : List Lr} {ag : Bool} {ps : List Par} {rk : A → List Rk} (hf : P.funcs[F]? = some fn) (d : gin ps → lrs ow → D P (fun a => R a ∧ rgd (rk a))) (h : (vcoT P fn ow ag ps rk d).side true = (vcoT P fn ow ag ps rk d).side false) : Co P F ow ag ps R rk := by
 have h := Tr.of_side h
 obtain ⟨h1, h⟩ := h
 refine ⟨fun w W0 cs r us rs hlv st hp => ?_⟩
 split at h
 ·next c hb =>
  have hl : us.length + 1 ≤ fn.ntmps := by rw [hp.len]; exact Nat.le_of_ble_eq_true h1
  refine enter (cond ag (.agg cs.toArray) (cs.headD undef) :: us) hf hb rfl hl ?_
  have st1 : St w W0 (r ++ ([] ++ S.rs ⟨[], [(bigN, .raw (Res.all rs))], [], 0⟩)) := St.all_in (a := r) st
  refine vZ (rs := []) (h (Res.all rs)) hlv st1 fun scs s1 h2 e1 e2 e3 _ st2 hn => ?_
  have hret : ∀ {s : S} {d : D P (fun a => R a ∧ rgd (rk a))} {f : Nat → Value} {W : World}, (retO P rk fn.ntmps fn.results.toList (Res.all rs) s d).holds → Den w s f W → ∃ v, (results fn (act fn.ntmps f).tmps).run P W = .ok v W ∧ ∃ a vs rr, R a ∧ Ending.returned v = .returned (wO vs) ∧ Rks vs (rk a) rr ∧ St w W (rr ++ rs) := by
   intro s d f W h den
   refine kS h den fun s1 d1 h1 den1 => ?_
   split at h1
   ·next a ha =>
    refine yS den1 h1 fun ts hts h4 => ?_
    have st3 : St w W (Or s1.O ++ []) := by simpa [Or, S.rs] using den1.st
    obtain ⟨rr, O2, hK, h5, st4⟩ := aM2 h4 ha.2 st3
    split at hK
    ·next r' hr =>
     obtain ⟨rfl, _⟩ := hK
     have st5 := st4.take hr
     have st6 : St w W (rr ++ [Res.all rs]) := by
      have st7 : St w W (Res.all rs :: (rr ++ [])) := st5.sub (List.Sublist.cons_cons _ (sublist_append_right _ _))
      rw [append_nil] at st7
      exact st7.perm (perm_append_comm (l₁ := rr) (l₂ := [Res.all rs]))
     exact ⟨_, tE hts, a, _, rr, ha.1, rfl, h5, St.all_out st6⟩
    exact hK.elim
   exact h1.elim
  refine lG (t := 1) h2 hp (f := fun t => (cond ag (.agg cs.toArray) (cs.headD undef) :: us).getD t undef) (fun k v hk => by
   show (cond ag (.agg cs.toArray) (cs.headD undef) :: us).getD (1 + k) undef = v
   rw [Nat.add_comm, getD_eq_getElem?_getD, getElem?_cons_succ, hk]; rfl) (W := W0) ⟨?_, st2, by rw [e3]; intro e he; cases he⟩ fun s' h' den' hg => ?_
  ·refine Fr.know (E := []) (fun t x hx => by cases hx) 0 _ ?_
   show cond ag (.agg cs.toArray) (cs.headD undef) = _
   cases ag with
   | true => rw [← e1]; rfl
   | false =>
    rw [← e1]
    cases scs with
    | nil => rfl
    | cons a l => rfl
  refine aO9 c (h' hg hn) den' fun e s2 d2 f2 W2 h2 den2 => ?_
  cases e with
  | ret => exact ⟨rfl, hret h2 den2⟩
  | normal => exact ⟨rfl, hret h2 den2⟩
  | exit i => exact h2.elim
  | goto l => exact h2.elim
  | panic ch => exact h2.elim
  | outgrown => exact h2.elim
 exact h.elim
end
end Go.Proofs.YtanpcpoogkdlaaaGreat
