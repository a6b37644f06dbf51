/-
  Texts of this claim, laid behind one another: Doq, Def, Dep, Dap, Dcm, Dco, Ddr, Dck, Dvc, Dty, Dsh, RdS, Dhk, RdW, Numb, RdX.
-/
import Derived.Test.YtchnllpegfbleaaDoorM04
import Derived.Shelf.Strconv.ErrVarAll
import Derived.Shelf.Strings.Split
import Derived.Shelf.Strings.Cut
import Derived.Lib.AtoiErrMem
/-
  One operation that only reads, of whatever kind. Theory alone.
-/
namespace Go.Proofs.YtchnllpegfbleaaDoor
set_option linter.unusedSimpArgs false
set_option linter.unusedVariables false
set_option maxHeartbeats 1000000
open Go.RowKit
universe u

section
variable {P : Program} {A : Type} {R : A → Prop}
theorem slOk_elK {t : TypeId} {α : Type} [Shape α] (h : elK P t = some (Shape.size α)) : ∃ e, SlOk P t e α := by
  unfold elK at h
  split at h
  · next e hu =>
    obtain ⟨j, hj, h⟩ := Option.bind_eq_some_iff.1 h
    simp only [Option.some.injEq] at h
    exact ⟨e, ⟨hu, by rw [hj, Option.map_some, h]⟩⟩
  · cases h
def isStr (P : Program) (t : Nat) : Bool :=
  match P.underlying t with
  | some .string => true
  | _ => false
theorem isStr_ok {t : Nat} (h : isStr P t = true) : P.underlying t = some .string := by
  unfold isStr at h
  split at h
  · next hu => exact hu
  · cases h
section
variable {n : Nat} {f : Nat → Value} {W : World} {Q : Exit → Act → World → Prop} {K : Value → World → Prop} {d : Option Tmp} {ty : TypeId} {pos : String} {af : Array Go.Edge} {g : Option (Nat × Bool)}
theorem stp_lenK {x : Operand} {t : TypeId} {ao : Option Addr} {N cap : Nat} (hb : isSl P t = true) (hx : ev n f x = .slice ao N cap) (k : K (I (N : Int)) W) : Stp P n ⟨d, .call { callee := .builtin .len, args := #[x], argTypes := #[t] }, ty, pos, af, g⟩ f W Q K := by
  unfold isSl at hb
  split at hb
  · next te ht =>
    refine Stp.run (v := I N) ?_ k
    have he : P.elem t = te := by simp [Program.elem, ht]
    have hu2 : P.underlying t = some (.slice (P.elem t)) := by rw [he]; exact ht
    simp [execOp, hx, resolve, invoke, builtin, Sem.run_bind, run_len_slice (h := hu2), goInt]
  · cases hb
theorem stp_fld {x : Operand} {t i : Nat} {u v : Value} (hx : ev n f x = u) (hb : (Instr.field t u i).run P W = .ok v W) (k : K v W) : Stp P n ⟨d, .field t x i, ty, pos, af, g⟩ f W Q K :=
  Stp.run (v := v) (by simp [execOp, hx, Sem.run_bind, hb]) k
theorem stp_bld {t : TypeId} {parts : List (Nat × Operand)} {vs : List (Nat × Value)} {v : Value} (hv : parts.map (fun (i, x) => (i, ev n f x)) = vs) (hb : (Instr.build t vs.toArray).run P W = .ok v W) (k : K v W) : Stp P n ⟨d, .build t parts.toArray, ty, pos, af, g⟩ f W Q K :=
  Stp.run (v := v) (by
    have e1 : parts.toArray.map (fun (i, x) => (i, ev n f x)) = vs.toArray := by rw [← hv]; simp
    simp only [execOp, Sem.run_bind, e1, hb]; rfl) k
end
/-- The length of a slice, or of a text. -/
def lnT (P : Program) (s : S) (t : TypeId) (c : Sc) (K : SV → Tr) : Tr :=
  match c with
  | .rf j h => opt (slOf s j) fun q => .e0 h q.2.1 <| .e0 (isSl P t) true (K (one (.vl (I (q.2.2.xs.length : Int)))))
  | .lt _ _ n => .e0 (isSl P t) true (K (one (.vl (I (n : Int)))))
  | .vl (.slice _ n _) => .e0 (isSl P t) true (K (one (.vl (I (n : Int)))))
  | .vl (.string a) => .e0 (isStr P t) true (K (one (.vl (I (a.size : Int)))))
  | _ => .no
theorem lnT_ok {G : Prop} {lk : Operand → Option SV} {w0 W : World} {s : S} {x : Operand} {t : TypeId} {c : Sc} {K : SV → Tr} (hx : lk x = some (one c)) (h : (lnT P s t c K).holds) (st : St w0 W s.rs) (fa : Facts w0 W s.B)
    (k : ∀ v, (K v).holds → QS P lk (.call { callee := .builtin .len, args := #[x], argTypes := #[t] }) w0 W s.rs v → G) : G := by
  unfold lnT at h
  split at h
  · next j hd =>
    refine opt_ok h fun q hq h => ?_
    obtain ⟨l, hd', dd⟩ := q
    obtain ⟨h1, h2, h⟩ := h
    simp only at h1
    subst h1
    obtain ⟨fp, hs⟩ := slOf_ok hq st fa
    obtain ⟨ao, cap, e, _⟩ := hs
    refine k _ h ?_
    intro n f W' Q KK d ty pos af g hl hst hb hk
    exact stp_lenK h2 ((hl _ _ hx).trans e) (hk W' hst (Below.refl _ _))
  · refine k _ h.2 ?_
    intro n f W' Q KK d ty pos af g hl hst hb hk
    exact stp_lenK h.1 (hl _ _ hx) (hk W' hst (Below.refl _ _))
  · refine k _ h.2 ?_
    intro n f W' Q KK d ty pos af g hl hst hb hk
    exact stp_lenK h.1 (hl _ _ hx) (hk W' hst (Below.refl _ _))
  · refine k _ h.2 ?_
    intro n f W' Q KK d ty pos af g hl hst hb hk
    exact stp_slen (isStr_ok h.1) (hl _ _ hx) (hk W' hst (Below.refl _ _))
  · exact h.elim
/-! ### Structs -/
def offs (P : Program) (t i : Nat) : Option (Nat × Option Nat) :=
  match P.underlying t with
  | some (.struct fs) => (fs[i]?).bind fun fd => (ldK P fd.type).map fun z => (fd.offset, z)
  | _ => none
def fldU (P : Program) (t i : Nat) (cs : List Sc) : Option SV :=
  (offs P t i).bind fun q => match q.2 with
    | none => (cs[q.1]?).map one
    | some z => some (.on (.ag ((cs.drop q.1).take z)))
def tvC : SV → List Sc
  | .on (.ce c) => [c]
  | .on (.ag l) => l
  | .tu _ => []
def put0 : List Sc → Nat → List Sc → List Sc
  | cs, _, [] => cs
  | [], _, _ :: _ => []
  | _ :: cs, 0, v :: vs => v :: put0 cs 0 vs
  | c :: cs, o + 1, vs => c :: put0 cs o vs
def zeros (P : Program) (t : Nat) : List Sc := (((P.info? t).bind (·.zero)).map (fun z => z.cells.toList.map Sc.vl)).getD []
def bldU (P : Program) (t : Nat) : List (Nat × SV) → List Sc → List Sc
  | [], cs => cs
  | (i, v) :: ps, cs => bldU P t ps (match offs P t i with
    | some q => put0 cs q.1 (tvC v)
    | none => cs)
def lkp (lk : Operand → Option SV) : List (Nat × Operand) → Option (List (Nat × SV))
  | [] => some []
  | (i, x) :: ps => (lk x).bind fun v => (lkp lk ps).bind fun vs => some ((i, v) :: vs)
theorem lkp_ok {lk : Operand → Option SV} {n : Nat} {f : Nat → Value} (hl : ∀ x u, lk x = some u → ev n f x = u.val) : ∀ {ps : List (Nat × Operand)} {vs : List (Nat × SV)}, lkp lk ps = some vs → ps.map (fun (i, x) => (i, ev n f x)) = vs.map fun p => (p.1, p.2.val)
  | [], vs, h => by simp only [lkp, Option.some.injEq] at h; subst h; rfl
  | (i, x) :: ps, vs, h => by
    simp only [lkp] at h
    obtain ⟨v, hv, h⟩ := Option.bind_eq_some_iff.1 h
    obtain ⟨us, hu, h⟩ := Option.bind_eq_some_iff.1 h
    simp only [Option.some.injEq] at h
    subst h
    rw [List.map_cons, List.map_cons, lkp_ok hl hu]
    simp only [hl x v hv]
def lkv (lk : Operand → Option SV) : List Operand → Option (List SV)
  | [] => some []
  | x :: xs => (lk x).bind fun v => (lkv lk xs).bind fun vs => some (v :: vs)
theorem lkv_ok {lk : Operand → Option SV} {n : Nat} {f : Nat → Value} (hl : ∀ x u, lk x = some u → ev n f x = u.val) : ∀ {xs : List Operand} {vs : List SV}, lkv lk xs = some vs → xs.map (ev n f) = vs.map SV.val
  | [], vs, h => by simp only [lkv, Option.some.injEq] at h; subst h; rfl
  | x :: xs, vs, h => by
    simp only [lkv] at h
    obtain ⟨v, hv, h⟩ := Option.bind_eq_some_iff.1 h
    obtain ⟨us, hu, h⟩ := Option.bind_eq_some_iff.1 h
    simp only [Option.some.injEq] at h
    subst h
    rw [List.map_cons, List.map_cons, hl x v hv, lkv_ok hl hu]
/-! ### Calls of plain results -/
def allv : List Rk → Option (List TV)
  | [] => some []
  | .v x :: ks => (allv ks).map fun l => .ce (sc x) :: l
  | _ :: _ => none
def svq (ks : List Rk) : Option SV :=
  (allv ks).map fun l => match l with
    | [t] => .on t
    | l => .tu l
theorem allv_ok : ∀ {ks : List Rk} {l : List TV}, allv ks = some l → gds ks ∧ ∀ {vs rs}, Rks vs ks rs → rs = [] ∧ vs = l.map TV.val
  | [], l, h => by
    simp only [allv, Option.some.injEq] at h
    subst h
    refine ⟨trivial, fun {vs rs} hr => ?_⟩
    cases vs with
    | nil => exact ⟨hr, rfl⟩
    | cons v vs => exact hr.elim
  | .v x :: ks, l, h => by
    simp only [allv, Option.map_eq_some_iff] at h
    obtain ⟨l', h', rfl⟩ := h
    obtain ⟨h1, h2⟩ := allv_ok h'
    refine ⟨h1, fun {vs rs} hr => ?_⟩
    cases vs with
    | nil => exact hr.elim
    | cons v vs =>
      obtain ⟨r1, r2, h3, h4, rfl⟩ := hr
      obtain ⟨rfl, rfl⟩ := h2 h4
      obtain ⟨rfl, rfl⟩ := h3
      exact ⟨rfl, by rw [List.map_cons, TV.val, sc_val]⟩
  | .own _ _ :: _, _, h => by cases h
  | .sl _ _ :: _, _, h => by cases h
theorem svq_ok {ks : List Rk} {v : SV} (h : svq ks = some v) : gds ks ∧ ∀ {vs rs}, Rks vs ks rs → rs = [] ∧ rval vs = v.val := by
  unfold svq at h
  simp only [Option.map_eq_some_iff] at h
  obtain ⟨l, h1, h2⟩ := h
  obtain ⟨h3, h4⟩ := allv_ok h1
  refine ⟨h3, fun {vs rs} hr => ?_⟩
  obtain ⟨rfl, rfl⟩ := h4 hr
  refine ⟨rfl, ?_⟩
  split at h2
  · subst h2; rfl
  · next hne =>
    subst h2
    clear h1 h4 hr
    match l, hne with
    | [], _ => rfl
    | [t], hne => exact absurd rfl (hne t)
    | _ :: _ :: _, _ => rfl
def clQ (s : S) (lk : Operand → Option SV) (F : FuncId) (xs : List Operand) (d : D P R) (K : SV → D P R → Tr) : Tr :=
  nrm d fun d => match d with
    | .cq (ps := ps) (rk := rk) (G := G) F' (fn := fn) _ _ _ k => .e0 F F' <| .e0 ((fn.name == "runtime.NumGoroutine") || fn.body.isNone) false <| opt (lkv lk xs) fun us => parsT s us ps <| grT s G <| opt (svq rk) fun v => .fp (gds rk) fun hg => K v (k hg)
    | _ => .no
theorem clQ_ok {G : Prop} {lk : Operand → Option SV} {w0 W : World} {s : S} {F : FuncId} {xs : List Operand} {ats : Array TypeId} {d : D P R} {K : SV → D P R → Tr} (h : (clQ s lk F xs d K).holds) (st : St w0 W s.rs) (fa : Facts w0 W s.B)
    (k : ∀ v d', (K v d').holds → QS P lk (.call { callee := .value (.func F), args := xs.toArray, argTypes := ats }) w0 W s.rs v → G) : G := by
  unfold clQ at h
  refine nrm_ok h fun d' h => ?_
  split at h
  · next ps rk G0 F' fn hf hct hg kk =>
    obtain ⟨rfl, ho, h⟩ := h
    refine opt_ok h fun us hus h => ?_
    obtain ⟨_, h'⟩ := parsT_ok st fa h hg
    obtain ⟨hG, h'⟩ := grT_ok h' st.below fa
    refine opt_ok h' fun v hv h' => ?_
    obtain ⟨hgd, hvr⟩ := svq_ok hv
    refine k _ _ (h' hgd) ?_
    intro n f W' Q KK d ty pos af g hl hst hb hk
    obtain ⟨hp, _⟩ := parsT_ok hst (fa.up hb) h hg
    refine stp_call hf ho (lkv_ok hl hus) ((hct.run W' _ (hG.up hb) hp).mono ?_)
    rintro e W'' ⟨_, vs, rs, _, rfl, hr, hst'⟩
    obtain ⟨rfl, e⟩ := hvr hr
    exact ⟨v.val, by rw [e], hk W'' (by simpa using hst.call hst') hst'.below⟩
  · exact h.elim
/-! ### Parts of slices -/
theorem slq_b {α : Type} [Shape α] {w : World} {h : Hd} {xs : List α} {fp : List Nat} {a b : Nat} (hs : Sl w h.val xs fp) (h1 : a ≤ b) (h2 : b ≤ xs.length) : h.n = xs.length ∧ b ≤ h.cap ∧ ∃ g, Sl w (sliced h.ao a b h.cap (Shape.size α)) ((xs.take b).drop a) g ∧ ∀ c ∈ g, c ∈ fp := by
  obtain ⟨ao, cap, fp', e, hcap, hs', hf⟩ := hs.part a b h1 h2
  unfold Hd.val at e
  injection e with e1 e2 e3
  subst e1 e3
  exact ⟨e2, hcap, fp', hs', hf⟩
theorem slq_l2 {α : Type} [Shape α] {w : World} {h : Hd} {xs : List α} {fp : List Nat} {a : Nat} (hs : Sl w h.val xs fp) (h1 : a ≤ xs.length) : ∃ g, Sl w (sliced h.ao a h.n h.cap (Shape.size α)) (xs.drop a) g ∧ ∀ c ∈ g, c ∈ fp := by
  obtain ⟨e, hcap, g, hs', hf⟩ := slq_b hs h1 (Nat.le_refl _)
  rw [e]
  exact ⟨g, by simpa using hs', hf⟩
theorem stp_sl_l {α : Type} [Shape α] {P : Program} {n : Nat} {f : Nat → Value} {W : World} {Q : Exit → Act → World → Prop} {K : Value → World → Prop} {d : Option Tmp} {ty : TypeId} {pos : String} {af : Array Go.Edge} {gd : Option (Nat × Bool)} {t t' : TypeId} {x y : Operand} {h : Hd} {l : Nat} {e : Int} (hT : SlOk P t t' α) (hx : ev n f x = h.val) (hy : ev n f y = I e) (he : e = l) (hl : l ≤ h.n) (k : K (sliced h.ao l h.n h.cap (Shape.size α)) W) : Stp P n ⟨d, .slice t x (some y) none none, ty, pos, af, gd⟩ f W Q K := by
  subst he
  have hel : P.elem t = t' := by simp [Program.elem, hT.desc]
  have hu : P.underlying t = some (.slice (P.elem t)) := by rw [hel]; exact hT.desc
  refine Stp.run (v := sliced h.ao l h.n h.cap (Shape.size α)) ?_ k
  simp only [execOp, hx, hy, Sem.run_bind, Option.map_none, Option.map_some, Hd.val]
  rw [run_sliceAt_slice (h := hu), run_slice_l (ht := hu) (h0 := by omega) (h1 := by omega), hel, run_size hT.size]
  simp
theorem stp_sl_lh {α : Type} [Shape α] {P : Program} {n : Nat} {f : Nat → Value} {W : World} {Q : Exit → Act → World → Prop} {K : Value → World → Prop} {d : Option Tmp} {ty : TypeId} {pos : String} {af : Array Go.Edge} {gd : Option (Nat × Bool)} {t t' : TypeId} {x y z : Operand} {h : Hd} {a b : Nat} {ea eb : Int} (hT : SlOk P t t' α) (hx : ev n f x = h.val) (hy : ev n f y = I ea) (hz : ev n f z = I eb) (he : ea = a) (he2 : eb = b) (h1 : a ≤ b) (h2 : b ≤ h.cap) (k : K (sliced h.ao a b h.cap (Shape.size α)) W) : Stp P n ⟨d, .slice t x (some y) (some z) none, ty, pos, af, gd⟩ f W Q K := by
  subst he he2
  have hel : P.elem t = t' := by simp [Program.elem, hT.desc]
  have hu : P.underlying t = some (.slice (P.elem t)) := by rw [hel]; exact hT.desc
  refine Stp.run (v := sliced h.ao a b h.cap (Shape.size α)) ?_ k
  simp only [execOp, hx, hy, hz, Sem.run_bind, Option.map_none, Option.map_some, Hd.val]
  rw [run_sliceAt_slice (h := hu), run_slice_lh (ht := hu) (h0 := by omega) (h1 := by omega) (h2 := by omega), hel, run_size hT.size]
  simp
def tdT (P : Program) {A : Type} {R : A → Prop} (s : S) (t : TypeId) (c y z : Sc) (d : D P R) (K : SV → S → D P R → Tr) : Tr :=
  nrm d fun d => match c, d with
    | .rf j h, .td i xs a b _ ea eb _ _ k => opt (slOf s j) fun q => .e0 h q.2.1 <| .e1 q.2.2 ⟨i, xs⟩ <| .e0 y.val (I ea) <| .e0 z.val (I eb) <| .e0 (elK P t) (some i.size) <|
        .fn fun g : Hd × List Nat => K (one (.rf s.nx g.1)) ⟨s.E, s.O, (s.nx, q.1, .sl i g.1 ((xs.take b).drop a) g.2) :: s.B, s.nx + 1⟩ k
    | _, _ => .no
theorem tdT_ok {G : Prop} {lk : Operand → Option SV} {w0 W : World} {s : S} {x y z : Operand} {t : TypeId} {cx cy cz : Sc} {d : D P R} {K : SV → S → D P R → Tr} (hx : lk x = some (one cx)) (hy : lk y = some (one cy)) (hz : lk z = some (one cz)) (h : (tdT P s t cx cy cz d K).holds) (st : St w0 W s.rs) (fa : Facts w0 W s.B)
    (k : ∀ v s' d', (K v s' d').holds → s'.E = s.E → s'.O = s.O → Facts w0 W s'.B → QS P lk (.slice t x (some y) (some z) none) w0 W s.rs v → G) : G := by
  unfold tdT at h
  refine nrm_ok h fun d' h => ?_
  split at h
  · next _ j hd α i xs a b hab ea eb hea heb kk _ =>
    refine opt_ok h fun q hq h => ?_
    obtain ⟨l, hd', dd⟩ := q
    obtain ⟨h1, h2, h3, h3', h4, h⟩ := h
    simp only at h1 h2
    subst h1 h2
    obtain ⟨fp, hs⟩ := slOf_ok hq st fa
    obtain ⟨_, hcap, g, hs', _⟩ := slq_b hs hab.1 hab.2
    obtain ⟨hd2, e2, _⟩ := hs'.hd
    obtain ⟨t2, hT⟩ := slOk_elK h4
    refine k _ _ _ (h (hd2, g)) rfl rfl ?_ ?_
    · intro e he
      rcases List.mem_cons.1 he with rfl | he
      · have hs3 := hs'
        rw [e2] at hs3
        exact hs3
      · exact fa e he
    · intro n f W' Q KK d ty pos af g hl hst hb hk
      refine stp_sl_lh hT (hl _ _ hx) ((hl _ _ hy).trans h3) ((hl _ _ hz).trans h3') hea heb hab.1 hcap ?_
      rw [e2]
      exact hk W' hst (Below.refl _ _)
  · exact h.elim
def tkT (P : Program) {A : Type} {R : A → Prop} (s : S) (t : TypeId) (c y : Sc) (d : D P R) (K : SV → S → D P R → Tr) : Tr :=
  nrm d fun d => match c, d with
    | .rf j h, .tk i xs n _ e _ k => opt (slOf s j) fun q => .e0 h q.2.1 <| .e1 q.2.2 ⟨i, xs⟩ <| .e0 y.val (I e) <| .e0 (elK P t) (some i.size) <|
        .fn fun g : Hd × List Nat => K (one (.rf s.nx g.1)) ⟨s.E, s.O, (s.nx, q.1, .sl i g.1 (xs.take n) g.2) :: s.B, s.nx + 1⟩ k
    | _, _ => .no
def dpT (P : Program) {A : Type} {R : A → Prop} (s : S) (t : TypeId) (c y : Sc) (d : D P R) (K : SV → S → D P R → Tr) : Tr :=
  nrm d fun d => match c, d with
    | .rf j h, .dp i xs n _ e _ k => opt (slOf s j) fun q => .e0 h q.2.1 <| .e1 q.2.2 ⟨i, xs⟩ <| .e0 y.val (I e) <| .e0 (elK P t) (some i.size) <|
        .fn fun g : Hd × List Nat => K (one (.rf s.nx g.1)) ⟨s.E, s.O, (s.nx, q.1, .sl i g.1 (xs.drop n) g.2) :: (s.nx + 2000000, true, .dv g.1 h n i.size) :: s.B, s.nx + 1⟩ k
    | _, _ => .no
theorem tkT_ok {G : Prop} {lk : Operand → Option SV} {w0 W : World} {s : S} {x y : Operand} {t : TypeId} {cx cy : Sc} {d : D P R} {K : SV → S → D P R → Tr} (hx : lk x = some (one cx)) (hy : lk y = some (one cy)) (h : (tkT P s t cx cy d K).holds) (st : St w0 W s.rs) (fa : Facts w0 W s.B)
    (k : ∀ v s' d', (K v s' d').holds → s'.E = s.E → s'.O = s.O → Facts w0 W s'.B → QS P lk (.slice t x none (some y) none) w0 W s.rs v → G) : G := by
  unfold tkT at h
  refine nrm_ok h fun d' h => ?_
  split at h
  · next _ j hd α i xs m hm e he kk _ =>
    refine opt_ok h fun q hq h => ?_
    obtain ⟨l, hd', dd⟩ := q
    obtain ⟨h1, h2, h3, h4, h⟩ := h
    simp only at h1 h2
    subst h1 h2
    obtain ⟨fp, hs⟩ := slOf_ok hq st fa
    obtain ⟨u, g, hs', _, hstep⟩ := slq_h hs hm
    obtain ⟨hd2, rfl, _⟩ := hs'.hd
    obtain ⟨e2, hT⟩ := slOk_elK h4
    refine k _ _ _ (h (hd2, g)) rfl rfl ?_ ?_
    · intro e he
      rcases List.mem_cons.1 he with rfl | he
      · exact hs'
      · exact fa e he
    · intro n f W' Q KK d ty pos af g hl hst hb hk
      exact hstep hT (hl _ _ hx) ((hl _ _ hy).trans h3) he (hk W' hst (Below.refl _ _))
  · exact h.elim
theorem dpT_ok {G : Prop} {lk : Operand → Option SV} {w0 W : World} {s : S} {x y : Operand} {t : TypeId} {cx cy : Sc} {d : D P R} {K : SV → S → D P R → Tr} (hx : lk x = some (one cx)) (hy : lk y = some (one cy)) (h : (dpT P s t cx cy d K).holds) (st : St w0 W s.rs) (fa : Facts w0 W s.B)
    (k : ∀ v s' d', (K v s' d').holds → s'.E = s.E → s'.O = s.O → Facts w0 W s'.B → QS P lk (.slice t x (some y) none none) w0 W s.rs v → G) : G := by
  unfold dpT at h
  refine nrm_ok h fun d' h => ?_
  split at h
  · next _ j hd α i xs m hm e he kk _ =>
    refine opt_ok h fun q hq h => ?_
    obtain ⟨l, hd', dd⟩ := q
    obtain ⟨h1, h2, h3, h4, h⟩ := h
    simp only at h1 h2
    subst h1 h2
    obtain ⟨fp, hs⟩ := slOf_ok hq st fa
    obtain ⟨hn, _⟩ := slq_b hs hm (Nat.le_refl _)
    obtain ⟨g, hs', _⟩ := slq_l2 hs hm
    obtain ⟨hd2, e2, _⟩ := hs'.hd
    obtain ⟨t2, hT⟩ := slOk_elK h4
    refine k _ _ _ (h (hd2, g)) rfl rfl ?_ ?_
    · intro e he
      rcases List.mem_cons.1 he with rfl | he
      · have hs3 := hs'
        rw [e2] at hs3
        exact hs3
      · rcases List.mem_cons.1 he with rfl | he
        · exact e2.symm
        · exact fa e he
    · intro n f W' Q KK d ty pos af g hl hst hb hk
      refine stp_sl_l hT (hl _ _ hx) ((hl _ _ hy).trans h3) he (by rw [hn]; exact hm) ?_
      rw [e2]
      exact hk W' hst (Below.refl _ _)
  · exact h.elim
/-- An operand that may be wanting. -/
def lko (lk : Operand → Option SV) (o : Option Operand) : Option (Option SV) :=
  match o with
  | none => some none
  | some x => (lk x).map some
theorem lko_ok {lk : Operand → Option SV} {n : Nat} {f : Nat → Value} (hl : ∀ x u, lk x = some u → ev n f x = u.val) {o : Option Operand} {v : Option SV} (h : lko lk o = some v) : o.map (ev n f) = v.map SV.val := by
  cases o with
  | none => simp only [lko, Option.some.injEq] at h; subst h; rfl
  | some x =>
    simp only [lko, Option.map_eq_some_iff] at h
    obtain ⟨u, hu, rfl⟩ := h
    simp [hl x u hu]
/-! ### All of them -/
def elT0 (P : Program) (t : Nat) : Nat :=
  match P.underlying t with
  | some (.slice e) => e
  | _ => 0
def isStrC : Sc → Bool
  | .vl (.string _) => true
  | _ => false
def slT4 (P : Program) {A : Type} {R : A → Prop} (lk : Operand → Option SV) (s : S) (t : TypeId) (x : Operand) (lo hi mx : Option Operand) (d : D P R) (K : SV → S → D P R → Tr) : Tr :=
  opt (lk x) fun v => asC v fun cx => match isStrC cx with
    | true => match mx with
      | none => opt (lko lk lo) fun l => opt (lko lk hi) fun h => nrm d fun d => match d with
        | .pl (t := a) (x := x) (lo := l') (hi := h') (z := z) _ k => .e0 t a <| .e0 cx.val x <| .e0 (l.map SV.val) l' <| .e0 (h.map SV.val) h' <| K (one (sc z)) s k
        | _ => .no
      | some _ => .no
    | false => match lo, hi, mx with
      | none, some y, none => opt (lk y) fun v => asC v fun cy => tkT P s t cx cy d K
      | some y, none, none => opt (lk y) fun v => asC v fun cy => dpT P s t cx cy d K
      | some y, some z, none => opt (lk y) fun v => asC v fun cy => opt (lk z) fun v => asC v fun cz => tdT P s t cx cy cz d K
      | _, _, _ => .no
theorem slT4_ok {G : Prop} {lk : Operand → Option SV} {w0 W : World} {s : S} {x : Operand} {lo hi mx : Option Operand} {t : TypeId} {d : D P R} {K : SV → S → D P R → Tr} (h : (slT4 P lk s t x lo hi mx d K).holds) (st : St w0 W s.rs) (fa : Facts w0 W s.B)
    (k : ∀ v s' d', (K v s' d').holds → s'.E = s.E → s'.O = s.O → Facts w0 W s'.B → QS P lk (.slice t x lo hi mx) w0 W s.rs v → G) : G := by
  unfold slT4 at h
  refine opt_ok h fun v hv h1 => asC_ok h1 fun cx hc h2 => ?_
  subst hc
  split at h2
  · split at h2
    · refine opt_ok h2 fun l hl h3 => opt_ok h3 fun u hu h4 => nrm_ok h4 fun d' h5 => ?_
      split at h5
      · next hL kk =>
        obtain ⟨rfl, e1, e2, e3, h6⟩ := h5
        refine k _ _ _ h6 rfl rfl fa ?_
        intro n f W' Q KK d ty pos af g hlk hst hb hk
        have hk2 := hk W' hst (Below.refl _ _)
        rw [show ∀ z : Value, (one (sc z)).val = z from fun z => sc_val z] at hk2
        exact hL ((hlk _ _ hv).trans e1) ((lko_ok hlk hl).trans e2) ((lko_ok hlk hu).trans e3) hk2
      · exact h5.elim
    · exact h2.elim
  · split at h2
    · refine opt_ok h2 fun u hu h3 => asC_ok h3 fun cy hy h4 => ?_
      subst hy
      exact tkT_ok hv hu h4 st fa k
    · refine opt_ok h2 fun u hu h3 => asC_ok h3 fun cy hy h4 => ?_
      subst hy
      exact dpT_ok hv hu h4 st fa k
    · refine opt_ok h2 fun u hu h3 => asC_ok h3 fun cy hy h4 => opt_ok h4 fun u2 hu2 h5 => asC_ok h5 fun cz hz h6 => ?_
      subst hy hz
      exact tdT_ok hv hu hu2 h6 st fa k
    · exact h2.elim
def qop (P : Program) {A : Type} {R : A → Prop} (lk : Operand → Option SV) (s : S) (o : Op) (d : D P R) (K : SV → S → D P R → Tr) : Tr :=
  match o with
  | .move x => opt (lk x) fun v => K v s d
  | .assign x => opt (lk x) fun v => K v s d
  | .pick c a b => opt (lk c) fun vc => asC vc fun c => bl c d fun r d => opt (lk (cond r a b)) fun v => K v s d
  | .nilCheck x => opt (lk x) fun v => asC v fun c => match c with
    | .pt j b k o => K (one (.pt j b k o)) s d
    | _ => .no
  | .fieldAddr t x i => opt (lk x) fun v => asC v fun c => match c with
    | .pt j b k o => opt (fOff P t i) fun off => K (one (.pt j b k (o + off))) s d
    | _ => .no
  | .load t x => opt (lk x) fun v => asC v fun c => ldT P s t c fun v => K v s d
  | .indexAddr t x y => opt (lk x) fun v => asC v fun cx => opt (lk y) fun v => asC v fun cy => ixT P s t cx cy d K
  | .binOp b t x y _ => opt (lk x) fun vx => opt (lk y) fun vy => match vx, vy with
    | .on (.ce cx), .on (.ce cy) => nrm d fun d => match d with
      | .pb b' (x := x) (y := y) (z := z) _ k => .e0 b b' <| .e0 cx.val x <| .e0 cy.val y <| K (one (sc z)) s k
      | .pn t0 x r _ k => match b, y with
        | .neq, .const .nilIface => .e0 t t0 <| .e0 cx.val x <| K (one (.bo r)) s k
        | _, _ => .no
      | d => boT P b t cx cy d fun v d => K v s d
    | .on (.ag cs), .on (.ag ds) => nrm d fun d => match b, d with
      | .eql, .qe (cs := cs') (ds := ds') (t := t') (b := r) _ _ k => .e0 t t' <| .e0 (cs.map Sc.val) cs' <| .e0 (ds.map Sc.val) ds' <| K (one (.bo r)) s k
      | .neq, .qe (cs := cs') (ds := ds') (t := t') (b := r) _ _ k => .e0 t t' <| .e0 (cs.map Sc.val) cs' <| .e0 (ds.map Sc.val) ds' <| K (one (.bo (!r))) s k
      | _, _ => .no
    | _, _ => .no
  | .unOp .not _ x => opt (lk x) fun v => asC v fun c => match c with
    | .vl (.bool b) => K (one (.vl (.bool (!b)))) s d
    | .bo e => K (one (.bo (!e))) s d
    | _ => .no
  | .unOp u _ x => opt (lk x) fun v => asC v fun c => nrm d fun d => match d with
    | .pu u' (x := x) (z := z) _ k => .e0 u u' <| .e0 c.val x <| K (one (sc z)) s k
    | _ => .no
  | .convert t t' x => opt (lk x) fun v => asC v fun c => nrm d fun d => match d with
    | .pc (t := a) (t' := b) (x := x) (z := z) _ k => .e0 t a <| .e0 t' b <| .e0 c.val x <| K (one (sc z)) s k
    | .so bs k => match c with
      | .rf j h => opt (slOf s j) fun q => .e0 h q.2.1 <| .e1 q.2.2 ⟨inferInstance, bs⟩ <| .e0 (P.underlying t) (some (.slice (elT0 P t))) <| .e0 (P.underlying (elT0 P t)) (some (.int .u8)) <| .e0 (P.underlying t') (some .string) <| K (one (.vl (.string ⟨bs.toArray⟩))) s k
      | _ => .no
    | _ => .no
  | .index t x y => opt (lk x) fun v => asC v fun cx => opt (lk y) fun v => asC v fun cy => nrm d fun d => match d with
    | .px (t := a) (x := x) (y := y) (z := z) _ k => .e0 t a <| .e0 cx.val x <| .e0 cy.val y <| K (one (sc z)) s k
    | _ => .no
  | .extract x i => opt (lk x) fun v => match v with
    | .tu l => opt (l[i]?) fun t => K (.on t) s d
    | _ => .no
  | .field t x i => opt (lk x) fun v => match v with
    | .on (.ag cs) => opt (fldU P t i cs) fun u => .e0 (fun W => (Instr.field t (.agg (cs.map Sc.val).toArray) i).run P W) (fun W => .ok u.val W) (K u s d)
    | _ => .no
  | .build t ps => opt (lkp lk ps.toList) fun vs => .e0 (fun W => (Instr.build t (vs.map fun p => (p.1, p.2.val)).toArray).run P W) (fun W => .ok (TV.ag (bldU P t vs (zeros P t))).val W) (K (.on (.ag (bldU P t vs (zeros P t)))) s d)
  | .slice t x lo hi mx => slT4 P lk s t x lo hi mx d K
  | .call ⟨.builtin .len, xs, ts⟩ => match xs.toList, ts.toList with
    | [x], [t] => opt (lk x) fun v => asC v fun c => lnT P s t c fun v => K v s d
    | _, _ => .no
  | .call ⟨.builtin .min, xs, ts⟩ => match xs.toList with
    | [x, y] => opt (lk x) fun v => asC v fun cx => opt (lk y) fun v => asC v fun cy => match cx, cy with
      | .vl (.int .i64 a), .vl (.int .i64 c) => K (one (.vl (I (min a c)))) s d
      | _, _ => .no
    | _ => .no
  | .call ⟨.builtin .max, xs, ts⟩ => match xs.toList with
    | [x, y] => opt (lk x) fun v => asC v fun cx => opt (lk y) fun v => asC v fun cy => match cx, cy with
      | .vl (.int .i64 a), .vl (.int .i64 c) => K (one (.vl (I (max a c)))) s d
      | _, _ => .no
    | _ => .no
  | .call ⟨.value (.func F), xs, _⟩ => clQ s lk F xs.toList d fun v d => K v s d
  | _ => .no
theorem qop_ok {G : Prop} {lk : Operand → Option SV} {w0 W : World} {s : S} {o : Op} {d : D P R} {K : SV → S → D P R → Tr} (h : (qop P lk s o d K).holds) (st : St w0 W s.rs) (fa : Facts w0 W s.B)
    (k : ∀ v s' d', (K v s' d').holds → s'.E = s.E → s'.O = s.O → Facts w0 W s'.B → QS P lk o w0 W s.rs v → G) : G := by
  unfold qop at h
  split at h
  · refine opt_ok h fun v hv h => k _ _ _ h rfl rfl fa ?_
    intro n f W' Q KK d ty pos af g hl hst hb hk
    exact stp_move (hl _ _ hv) (hk W' hst (Below.refl _ _))
  · refine opt_ok h fun v hv h => k _ _ _ h rfl rfl fa ?_
    intro n f W' Q KK d ty pos af g hl hst hb hk
    exact stp_assign (hl _ _ hv) (hk W' hst (Below.refl _ _))
  · refine opt_ok h fun v hv h' => asC_ok h' fun c hc h => bl_ok h fun r d' hr h => opt_ok h fun u hu h => k _ _ _ h rfl rfl fa ?_
    subst hc
    intro n f W' Q KK d ty pos af g hl hst hb hk
    cases r with
    | true => exact stp_pick_t ((hl _ _ hv).trans hr) (hl _ _ hu) (hk W' hst (Below.refl _ _))
    | false => exact stp_pick_f ((hl _ _ hv).trans hr) (hl _ _ hu) (hk W' hst (Below.refl _ _))
  · refine opt_ok h fun v hv h' => asC_ok h' fun c hc h => ?_
    subst hc
    split at h
    · refine k _ _ _ h rfl rfl fa ?_
      intro n f W' Q KK d ty pos af g hl hst hb hk
      exact stp_nilCheck (hl _ _ hv) (hk W' hst (Below.refl _ _))
    · exact h.elim
  · refine opt_ok h fun v hv h' => asC_ok h' fun c hc h => ?_
    subst hc
    split at h
    · refine opt_ok h fun off ho h => k _ _ _ h rfl rfl fa ?_
      intro n f W' Q KK d ty pos af g hl hst hb hk
      refine stp_fieldAddr (fOff_ok ho) (hl _ _ hv) ?_
      have := hk W' hst (Below.refl _ _)
      simp only [SV.val, TV.val, Sc.val, ← Nat.add_assoc] at this
      exact this
    · exact h.elim
  · refine opt_ok h fun v hv h' => asC_ok h' fun c hc h => ?_
    subst hc
    exact ldT_ok hv h fa fun v h q => k _ _ _ h rfl rfl fa q
  · refine opt_ok h fun v hv h' => asC_ok h' fun c hc h => opt_ok h fun v2 hv2 h'' => asC_ok h'' fun c2 hc2 h => ?_
    subst hc hc2
    exact ixT_ok hv hv2 h st fa k
  · refine opt_ok h fun v hv h => opt_ok h fun v2 hv2 h => ?_
    split at h
    · refine nrm_ok h fun d1 h1 => ?_
      split at h1
      · obtain ⟨rfl, e1, e2, h6⟩ := h1
        refine k _ _ _ h6 rfl rfl fa ?_
        intro n f W' Q KK d ty pos af g hl hst hb hk
        refine (by assumption : BOk P _ _ _ _) ((hl _ _ hv).trans e1) ((hl _ _ hv2).trans e2) ?_
        have := hk W' hst (Below.refl _ _)
        rwa [show (one (sc _)).val = _ from sc_val _] at this
      · next t0 x0 r0 hN kk =>
        split at h1
        · obtain ⟨rfl, e1, h6⟩ := h1
          refine k _ _ _ h6 rfl rfl fa ?_
          intro n f W' Q KK d ty pos af g hl hst hb hk
          exact hN ((hl _ _ hv).trans e1) (hk W' hst (Below.refl _ _))
        · exact h1.elim
      · exact boT_ok hv hv2 h1 fun v d h q => k _ _ _ h rfl rfl fa q
    · refine nrm_ok h fun d' h => ?_
      split at h
      · obtain ⟨rfl, rfl, rfl, h⟩ := h
        refine k _ _ _ h rfl rfl fa ?_
        intro n f W' Q KK d ty pos af g hl hst hb hk
        exact stp_aeql (by assumption) (by assumption) (hl _ _ hv) (hl _ _ hv2) (hk W' hst (Below.refl _ _))
      · obtain ⟨rfl, rfl, rfl, h⟩ := h
        refine k _ _ _ h rfl rfl fa ?_
        intro n f W' Q KK d ty pos af g hl hst hb hk
        exact stp_aneq (by assumption) (by assumption) (hl _ _ hv) (hl _ _ hv2) (hk W' hst (Below.refl _ _))
      · exact h.elim
    · exact h.elim
  · refine opt_ok h fun v hv h' => asC_ok h' fun c hc h => ?_
    subst hc
    split at h
    · refine k _ _ _ h rfl rfl fa ?_
      intro n f W' Q KK d ty pos af g hl hst hb hk
      exact stp_not (hl _ _ hv) (hk W' hst (Below.refl _ _))
    · refine k _ _ _ h rfl rfl fa ?_
      intro n f W' Q KK d ty pos af g hl hst hb hk
      exact stp_not (hl _ _ hv) (hk W' hst (Below.refl _ _))
    · exact h.elim
  · refine opt_ok h fun v hv h' => asC_ok h' fun c hc h => nrm_ok h fun d1 h1 => ?_
    subst hc
    split at h1
    · obtain ⟨rfl, e1, h6⟩ := h1
      refine k _ _ _ h6 rfl rfl fa ?_
      intro n f W' Q KK d ty pos af g hl hst hb hk
      refine (by assumption : UOk P _ _ _) ((hl _ _ hv).trans e1) ?_
      have := hk W' hst (Below.refl _ _)
      rwa [show (one (sc _)).val = _ from sc_val _] at this
    · exact h1.elim
  · refine opt_ok h fun v hv h' => asC_ok h' fun c hc h => nrm_ok h fun d1 h1 => ?_
    subst hc
    split at h1
    · obtain ⟨rfl, rfl, e1, h6⟩ := h1
      refine k _ _ _ h6 rfl rfl fa ?_
      intro n f W' Q KK d ty pos af g hl hst hb hk
      refine (by assumption : COk P _ _ _ _) ((hl _ _ hv).trans e1) ?_
      have := hk W' hst (Below.refl _ _)
      rwa [show (one (sc _)).val = _ from sc_val _] at this
    · split at h1
      · refine opt_ok h1 fun q hq h2 => ?_
        obtain ⟨l, hd', dd⟩ := q
        obtain ⟨e1, e2, e3, e4, e5, h6⟩ := h2
        simp only at e1 e2
        subst e1 e2
        refine k _ _ _ h6 rfl rfl fa ?_
        intro n f W' Q KK d ty pos af g hl hst hb hk
        obtain ⟨fp, hs⟩ := slOf_ok hq hst (fa.up hb)
        cases l with
        | true => exact stp_strOf e3 e4 e5 (hl _ _ hv) (Sl.below hs hst.below) (Below.refl _ _) (hk W' hst (Below.refl _ _))
        | false => exact stp_strOf e3 e4 e5 (hl _ _ hv) hs (Below.refl _ _) (hk W' hst (Below.refl _ _))
      · exact h1.elim
    · exact h1.elim
  · refine opt_ok h fun v hv h' => asC_ok h' fun c hc h => opt_ok h fun v2 hv2 h'' => asC_ok h'' fun c2 hc2 h => nrm_ok h fun d1 h1 => ?_
    subst hc hc2
    split at h1
    · obtain ⟨rfl, e1, e2, h6⟩ := h1
      refine k _ _ _ h6 rfl rfl fa ?_
      intro n f W' Q KK d ty pos af g hl hst hb hk
      refine (by assumption : XOk P _ _ _ _) ((hl _ _ hv).trans e1) ((hl _ _ hv2).trans e2) ?_
      have := hk W' hst (Below.refl _ _)
      rwa [show (one (sc _)).val = _ from sc_val _] at this
    · exact h1.elim
  · refine opt_ok h fun v hv h => ?_
    split at h
    · next l =>
      refine opt_ok h fun t ht h => k _ _ _ h rfl rfl fa ?_
      intro n f W' Q KK d ty pos af g hl hst hb hk
      exact stp_extract (hl _ _ hv) (v := t.val) (by simp [ht]) (hk W' hst (Below.refl _ _))
    · exact h.elim
  · refine opt_ok h fun v hv h => ?_
    split at h
    · refine opt_ok h fun u hu h => k _ _ _ h.2 rfl rfl fa ?_
      intro n f W' Q KK d ty pos af g hl hst hb hk
      exact stp_fld (hl _ _ hv) (congrFun h.1 W') (hk W' hst (Below.refl _ _))
    · exact h.elim
  · next t ps =>
    refine opt_ok h fun vs hvs h => k _ _ _ h.2 rfl rfl fa ?_
    intro n f W' Q KK d ty pos af g hl hst hb hk
    have := stp_bld (P := P) (t := t) (d := d) (ty := ty) (pos := pos) (af := af) (g := g) (Q := Q) (K := KK) (lkp_ok hl hvs) (congrFun h.1 W') (hk W' hst (Below.refl _ _))
    simpa using this
  · exact slT4_ok h st fa k
  · next xs ts =>
    split at h
    · next x t e1 e2 =>
      have e1 : xs = #[x] := by rw [← Array.toArray_toList (xs := xs), e1]
      have e2 : ts = #[t] := by rw [← Array.toArray_toList (xs := ts), e2]
      subst e1 e2
      refine opt_ok h fun v hv h' => asC_ok h' fun c hc h => ?_
      subst hc
      exact lnT_ok hv h st fa fun v h q => k _ _ _ h rfl rfl fa q
    · exact h.elim
  · next xs ts =>
    split at h
    · next x y e1 =>
      have e1 : xs = #[x, y] := by rw [← Array.toArray_toList (xs := xs), e1]
      subst e1
      refine opt_ok h fun v hv h' => asC_ok h' fun c hc h => opt_ok h fun v2 hv2 h'' => asC_ok h'' fun c2 hc2 h => ?_
      subst hc hc2
      split at h
      · refine k _ _ _ h rfl rfl fa ?_
        intro n f W' Q KK d ty pos af g hl hst hb hk
        exact stp_min (hl _ _ hv) (hl _ _ hv2) (hk W' hst (Below.refl _ _))
      · exact h.elim
    · exact h.elim
  · next xs ts =>
    split at h
    · next x y e1 =>
      have e1 : xs = #[x, y] := by rw [← Array.toArray_toList (xs := xs), e1]
      subst e1
      refine opt_ok h fun v hv h' => asC_ok h' fun c hc h => opt_ok h fun v2 hv2 h'' => asC_ok h'' fun c2 hc2 h => ?_
      subst hc hc2
      split at h
      · refine k _ _ _ h rfl rfl fa ?_
        intro n f W' Q KK d ty pos af g hl hst hb hk
        exact stp_max (hl _ _ hv) (hl _ _ hv2) (hk W' hst (Below.refl _ _))
      · exact h.elim
    · exact h.elim
  · next F xs ts =>
    refine clQ_ok (ats := ts) h st fa fun v d h q => k _ _ _ h rfl rfl fa ?_
    intro n f W' Q KK d ty pos af g hl hst hb hk
    have := q (n := n) (f := f) (W' := W') (Q := Q) (KK := KK) (d := d) (ty := ty) (pos := pos) (af := af) (g := g) hl hst hb hk
    simpa using this
  · exact h.elim
end
end Go.Proofs.YtchnllpegfbleaaDoor

/-
  Operations that make memory, write, or call; a region's list; what goes out of use. Theory alone.
-/
namespace Go.Proofs.YtchnllpegfbleaaDoor
set_option linter.unusedSimpArgs false
set_option linter.unusedVariables false
set_option maxHeartbeats 1000000
open Go.RowKit
universe u

/-! ### What is owned, by its number -/
def Or (O : List (Nat × Ob)) : List Res := O.map fun p => p.2.res
def delO : List (Nat × Ob) → Nat → List (Nat × Ob)
  | [], _ => []
  | (t, v) :: O, x => cond (Nat.beq x t) O ((t, v) :: delO O x)
theorem delO_perm : ∀ {O : List (Nat × Ob)} {j : Nat} {o : Ob}, lku O j = some o → (o.res :: Or (delO O j)).Perm (Or O)
  | [], _, _, h => by cases h
  | (t, v) :: O, x, o, h => by
    unfold lku at h
    unfold delO
    cases hb : Nat.beq x t with
    | true => rw [hb] at h; simp only [cond_true, Option.some.injEq] at h; subst h; exact List.Perm.refl _
    | false =>
      rw [hb] at h
      exact (List.Perm.swap _ _ _).trans ((delO_perm (O := O) h).cons _)
theorem St.take {w0 W : World} {O : List (Nat × Ob)} {j : Nat} {o : Ob} {rs : List Res} (h : St w0 W (Or O ++ rs)) (hj : lku O j = some o) : St w0 W (o.res :: (Or (delO O j) ++ rs)) :=
  h.perm ((delO_perm hj).append_right rs)
theorem St.pc_cs {α : Type} (i : Dsh α) {w0 W : World} {cs : List Value} {x : α} {fp : List Nat} {rs : List Res} (h : St w0 W (Res.pc cs (i.lv x) fp :: rs)) (hg : i.good x) : St w0 W (@Res.cs α i.toShape cs x fp :: rs) :=
  h.trade1 rfl (fun h => ⟨i.inn hg h.1, h.2⟩)
theorem St.cs_pc {α : Type} (i : Dsh α) {w0 W : World} {cs : List Value} {x : α} {fp : List Nat} {rs : List Res} (h : St w0 W (@Res.cs α i.toShape cs x fp :: rs)) : St w0 W (Res.pc cs (i.lv x) fp :: rs) ∧ i.good x :=
  ⟨h.trade1 rfl (fun h => ⟨(i.out h.1).2, h.2⟩), (i.out (h.get 0 rfl).1).1⟩
theorem St.pc_nil {w0 W : World} {rs : List Res} (h : St w0 W rs) : St w0 W (Res.pc [] [] [] :: rs) :=
  h.trade (rs1 := []) (rs2 := [Res.pc [] [] []]) (show ([] : List Nat).Nodup from List.nodup_nil) (fun b hb => absurd (show b ∈ ([] : List Nat) from hb) (by simp)) (by intro r hr; simp at hr; subst hr; exact ⟨rfl, by simp⟩)
theorem St.pc_v {w0 W : World} {rs : List Res} {cs : List Value} {ls : List Lf} {fp : List Nat} {x : Value} (h : St w0 W (Res.pc cs ls fp :: rs)) : St w0 W (Res.pc (x :: cs) (.v x :: ls) fp :: rs) :=
  h.trade1 rfl (fun h => ⟨⟨rfl, h.1⟩, h.2⟩)
theorem St.pc_n {β : Type} {i : Shape β} {w0 W : World} {rs : List Res} {cs : List Value} {ls : List Lf} {fp : List Nat} (h : St w0 W (Res.pc cs ls fp :: rs)) : St w0 W (Res.pc (.slice none 0 0 :: cs) (.s β i [] :: ls) fp :: rs) :=
  h.trade1 rfl (fun h => ⟨⟨[], fp, nil_Sl, h.1, rfl⟩, h.2⟩)
theorem St.pc_s {β : Type} {i : Shape β} {w0 W : World} {rs : List Res} {cs : List Value} {ls : List Lf} {fp f1 : List Nat} {v : Value} {ys : List β} (h : St w0 W (Res.pc cs ls fp :: Res.own v ys f1 :: rs)) : St w0 W (Res.pc (v :: cs) (.s β i ys :: ls) (f1 ++ fp) :: rs) := by
  refine St.trade (rs1 := [Res.pc cs ls fp, Res.own v ys f1]) (rs2 := [Res.pc (v :: cs) (.s β i ys :: ls) (f1 ++ fp)]) h ?_ ?_ ?_
  · have hn := h.nodup
    simp only [List.flatMap_cons] at hn
    rw [← List.append_assoc, List.nodup_append] at hn
    have h2 : (fp ++ f1).Nodup := hn.1
    simp only [List.flatMap_cons, List.flatMap_nil, List.append_nil]
    exact (List.perm_append_comm.nodup_iff).1 h2
  · intro b hb
    simp only [List.flatMap_cons, List.flatMap_nil, List.append_nil, Res.pc, Res.own, List.mem_append] at hb ⊢
    exact hb.symm
  · intro r hr
    simp only [List.mem_singleton] at hr
    subst hr
    have h1 := h.get 0 rfl
    have h2 := h.get 1 rfl
    refine ⟨⟨f1, fp, own_Sl h2, h1.1, rfl⟩, fun b hb => ?_⟩
    rcases List.mem_append.1 hb with hb | hb
    · exact h2.2 b hb
    · exact h1.2 b hb
theorem St.s_pc {β : Type} {i : Shape β} {w0 W : World} {rs : List Res} {cs : List Value} {ls : List Lf} {fp : List Nat} {v : Value} {ys : List β} (h : St w0 W (Res.pc (v :: cs) (.s β i ys :: ls) fp :: rs)) : ∃ f1 f2, St w0 W (Res.pc cs ls f2 :: Res.own v ys f1 :: rs) := by
  obtain ⟨⟨f1, f2, h1, h2, rfl⟩, hw⟩ := h.get 0 rfl
  refine ⟨f1, f2, St.trade (rs1 := [Res.pc (v :: cs) (.s β i ys :: ls) (f1 ++ f2)]) (rs2 := [Res.pc cs ls f2, Res.own v ys f1]) h ?_ ?_ ?_⟩
  · have hn := h.nodup
    simp only [List.flatMap_cons] at hn
    rw [List.nodup_append] at hn
    have h3 : (f1 ++ f2).Nodup := hn.1
    simp only [List.flatMap_cons, List.flatMap_nil, List.append_nil]
    exact (List.perm_append_comm.nodup_iff).1 h3
  · intro b hb
    simp only [List.flatMap_cons, List.flatMap_nil, List.append_nil, Res.pc, Res.own, List.mem_append] at hb ⊢
    exact hb.symm
  · intro r hr
    rcases List.mem_cons.1 hr with rfl | hr
    · exact ⟨h2, fun b hb => hw b (List.mem_append_right _ hb)⟩
    · simp only [List.mem_singleton] at hr
      subst hr
      exact ⟨h1.v, fun b hb => hw b (List.mem_append_left _ hb)⟩
theorem St.v_pc {w0 W : World} {rs : List Res} {cs : List Value} {ls : List Lf} {fp : List Nat} {v x : Value} (h : St w0 W (Res.pc (v :: cs) (.v x :: ls) fp :: rs)) : v = x ∧ St w0 W (Res.pc cs ls fp :: rs) :=
  ⟨(h.get 0 rfl).1.1, h.trade1 rfl (fun h => ⟨h.1.2, h.2⟩)⟩
theorem St.swap {w0 W : World} {a b : Res} {rs : List Res} (h : St w0 W (a :: b :: rs)) : St w0 W (b :: a :: rs) := h.perm (List.Perm.swap _ _ _)

section
variable {P : Program} {A : Type} {R : A → Prop}
/-- Cells go out of use: their slices are taken from what is owned. -/
def takeC : List (Nat × Ob) → List Sc → List Lf → (List (Nat × Ob) → Tr) → Tr
  | O, [], [], K => K O
  | O, c :: cs, .v u :: ls, K => .e0 c.val u (takeC O cs ls K)
  | O, c :: cs, .s _ i ys :: ls, K => match c with
    | .rf j h => match lku O j with
      | some (.own i' h' xs _) => .e0 h h' (.e1 (⟨i', xs⟩ : Dat) ⟨i, ys⟩ (takeC (delO O j) cs ls K))
      | some (.row i' _ h' xs _) => .e0 h h' (.e1 (⟨i', xs⟩ : Dat) ⟨i, ys⟩ (takeC (delO O j) cs ls K))
      | _ => .no
    | .vl (.slice none 0 0) => .e1 (⟨i, []⟩ : Dat) ⟨i, ys⟩ (takeC O cs ls K)
    | _ => .no
  | _, _, _, _ => .no
theorem takeC_ok {G : Prop} {w0 W : World} : ∀ {cs : List Sc} {ls : List Lf} {O : List (Nat × Ob)} {K : List (Nat × Ob) → Tr} {rs : List Res}, (takeC O cs ls K).holds → St w0 W (Or O ++ rs) →
    (∀ O' fp, (K O').holds → St w0 W (Res.pc (cs.map Sc.val) ls fp :: (Or O' ++ rs)) → G) → G
  | [], [], O, K, rs, h, st, k => k O [] h st.pc_nil
  | c :: cs, .v u :: ls, O, K, rs, h, st, k => by
    obtain ⟨rfl, h⟩ := h
    exact takeC_ok h st fun O' fp h' st' => k O' fp h' st'.pc_v
  | c :: cs, .s β i ys :: ls, O, K, rs, h, st, k => by
    unfold takeC at h
    split at h
    · next j hd =>
      split at h
      · next i' h' xs fp hj =>
        obtain ⟨rfl, h2, h⟩ := h
        simp only [Dat.mk.injEq] at h2
        obtain ⟨rfl, h2, h3⟩ := h2
        obtain ⟨rfl, rfl⟩ := And.intro (eq_of_heq h2) (eq_of_heq h3)
        have st2 : St w0 W (Or (delO O j) ++ (Res.own hd.val xs fp :: rs)) := (st.take hj).perm List.perm_middle
        refine takeC_ok h st2 fun O' fp' h' st' => k O' _ h' (St.pc_s (f1 := fp) (fp := fp') (st'.perm ?_))
        exact (List.perm_middle.symm).cons _
      · next i' te h' xs fe hj =>
        obtain ⟨rfl, h2, h⟩ := h
        simp only [Dat.mk.injEq] at h2
        obtain ⟨rfl, h2, h3⟩ := h2
        obtain ⟨rfl, rfl⟩ := And.intro (eq_of_heq h2) (eq_of_heq h3)
        obtain ⟨fp, st1⟩ := St.shut (st.take hj)
        have st2 : St w0 W (Or (delO O j) ++ (Res.own hd.val xs fp :: rs)) := st1.perm List.perm_middle
        refine takeC_ok h st2 fun O' fp' h' st' => k O' _ h' (St.pc_s (f1 := fp) (fp := fp') (st'.perm ?_))
        exact (List.perm_middle.symm).cons _
      · exact h.elim
    · obtain ⟨h2, h⟩ := h
      simp only [Dat.mk.injEq, heq_eq_eq, true_and] at h2
      subst h2
      exact takeC_ok h st fun O' fp h' st' => k O' fp h' st'.pc_n
    · exact h.elim
  | [], .v _ :: _, _, _, _, h, _, _ => h.elim
  | [], .s _ _ _ :: _, _, _, _, h, _, _ => h.elim
  | _ :: _, [], _, _, _, h, _, _ => h.elim
/-- Cells come into use: their slices are owned one by one. -/
def giveC : List Lf → S → (List Sc → S → Tr) → Tr
  | [], s, K => K [] s
  | .v x :: ls, s, K => giveC ls s fun cs s => K (sc x :: cs) s
  | .s _ i ys :: ls, s, K => .fn fun g : Hd × List Nat => giveC ls ⟨s.E, (s.nx, .own i g.1 ys g.2) :: s.O, s.B, s.nx + 1⟩ fun cs s' => K (.rf s.nx g.1 :: cs) s'
theorem giveC_ok {G : Prop} {w0 W : World} {rs : List Res} : ∀ {ls : List Lf} {s : S} {K : List Sc → S → Tr} {cs : List Value} {fp : List Nat}, (giveC ls s K).holds → St w0 W (Res.pc cs ls fp :: (rs ++ s.rs)) →
    (∀ scs s', (K scs s').holds → scs.map Sc.val = cs → s'.E = s.E → s'.B = s.B → (∃ N, s'.O = N ++ s.O) → St w0 W (rs ++ s'.rs) → lns ls → G) → G
  | [], s, K, [], fp, h, st, k => k [] s h rfl rfl rfl ⟨[], rfl⟩ st.d0 trivial
  | [], s, K, c :: cs, fp, h, st, k => (st.get 0 rfl).1.elim
  | .v x :: ls, s, K, [], fp, h, st, k => (st.get 0 rfl).1.elim
  | .s _ _ _ :: ls, s, K, [], fp, h, st, k => (st.get 0 rfl).1.elim
  | .v x :: ls, s, K, c :: cs, fp, h, st, k => by
    obtain ⟨e0, st2⟩ := st.v_pc
    subst e0
    refine giveC_ok (K := fun cs s => K (sc c :: cs) s) h st2 fun scs s' h' e1 e2 e3 e4 st' hl => k _ s' h' ?_ e2 e3 e4 st' hl
    rw [List.map_cons, sc_val, e1]
  | .s _ i ys :: ls, s, K, c :: cs, fp, h, st, k => by
    obtain ⟨f1, f2, st⟩ := st.s_pc
    have hs := own_Sl (st.get 1 rfl)
    obtain ⟨hd, rfl, hn⟩ := hs.hd
    refine giveC_ok (K := fun cs s' => K (.rf s.nx hd :: cs) s') (h (hd, f1)) (rs := rs) (st.perm ((List.perm_middle (a := Res.own hd.val ys f1) (l₁ := rs) (l₂ := s.rs)).cons _)) fun scs s' h' e1 e2 e3 e4 st' hl => k _ s' h' ?_ e2 e3 (e4.elim fun N hN => ⟨N ++ [(s.nx, .own i hd ys f1)], by rw [hN]; simp⟩) st' ⟨?_, hl⟩
    · rw [List.map_cons, e1]; rfl
    · exact hs.len_le
end
end Go.Proofs.YtchnllpegfbleaaDoor

/-
  Operations that make memory, write, or call. Theory alone.
-/
namespace Go.Proofs.YtchnllpegfbleaaDoor
set_option linter.unusedSimpArgs false
set_option linter.unusedVariables false
set_option maxHeartbeats 1000000
open Go.RowKit
universe u

section
variable {P : Program} {A : Type} {R : A → Prop}
def put1 {α : Type u} : List α → Nat → List α → List α
  | C, 0, [] => C
  | _ :: C, 0, v :: vs => v :: put1 C 0 vs
  | c :: C, n + 1, vs => c :: put1 C n vs
  | [], _, _ => []
theorem put1_map : ∀ (C : List Sc) (o : Nat) (vs : List Sc), (put1 C o vs).map Sc.val = splice (C.map Sc.val) o (vs.map Sc.val)
  | C, 0, [] => by cases C <;> rfl
  | _ :: C, 0, v :: vs => by
    show v.val :: (put1 C 0 vs).map Sc.val = v.val :: splice (C.map Sc.val) 0 (vs.map Sc.val)
    rw [put1_map C 0 vs]
  | c :: C, n + 1, vs => by
    show c.val :: (put1 C n vs).map Sc.val = c.val :: splice (C.map Sc.val) n (vs.map Sc.val)
    rw [put1_map C n vs]
  | [], 0, v :: vs => rfl
  | [], n + 1, vs => rfl
theorem bx_new {w0 W : World} {b : Nat} {zs : List Sc} {t : TypeId} {rs : List Res} (h : St w0 W (Res.bx b (zs.map Sc.val) t :: rs)) : St w0 W ((Ob.bx b [] zs [] t).res :: rs) := by
  simpa [Ob.res] using h
/-- A new box, and what it holds. -/
def newB (s : S) (zs : List Sc) (t : TypeId) (b : Nat) : S := ⟨s.E, (s.nx, .bx b [] zs [] t) :: s.O, s.B, s.nx + 1⟩
def alT (P : Program) (s : S) (t : TypeId) (K : SV → S → Tr) : Tr :=
  .e0 (((P.info? t).bind (·.zero)).map (·.cells.toList)) (some ((zeros P t).map Sc.val)) (.fn fun b : Nat => K (one (.pt s.nx b 0 0)) (newB s (zeros P t) t b))
theorem alT_ok {w0 W : World} {s : S} {t : TypeId} {K : SV → S → Tr} {n : Nat} {f : Nat → Value} {Q : Exit → Act → World → Prop} {KK : Value → World → Prop} {d : Option Tmp} {ty : TypeId} {pos : String} {af : Array Go.Edge} {g : Option (Nat × Bool)}
    (h : (alT P s t K).holds) (st : St w0 W s.rs) (fa : Facts w0 W s.B) (k : ∀ v s' W', (K v s').holds → s'.E = s.E → (∃ N, s'.O = N ++ s.O) → Below W.heap.size W W' → St w0 W' s'.rs → Facts w0 W' s'.B → KK v.val W') : Stp P n ⟨d, .alloc t, ty, pos, af, g⟩ f W Q KK := by
  obtain ⟨h1, h⟩ := h
  exact stp_alloc h1 st fun b W' hb st' => k _ _ W' (h b) rfl ⟨[_], rfl⟩ hb (bx_new st') (fa.up hb)
def bxT (s : S) (t : TypeId) (v : SV) (K : SV → S → Tr) : Tr :=
  match v with
  | .on (.ce c) => .e0 c.val.cells #[c.val] (.fn fun b : Nat => K (one (.pt s.nx b 0 0)) (newB s [c] t b))
  | .on (.ag l) => .fn fun b : Nat => K (one (.pt s.nx b 0 0)) (newB s l t b)
  | _ => .no
theorem bxT_ok {w0 W : World} {s : S} {t : TypeId} {x : Operand} {v : SV} {K : SV → S → Tr} {n : Nat} {f : Nat → Value} {Q : Exit → Act → World → Prop} {KK : Value → World → Prop} {d : Option Tmp} {ty : TypeId} {pos : String} {af : Array Go.Edge} {g : Option (Nat × Bool)}
    (hx : ev n f x = v.val) (h : (bxT s t v K).holds) (st : St w0 W s.rs) (fa : Facts w0 W s.B) (k : ∀ v s' W', (K v s').holds → s'.E = s.E → (∃ N, s'.O = N ++ s.O) → Below W.heap.size W W' → St w0 W' s'.rs → Facts w0 W' s'.B → KK v.val W') : Stp P n ⟨d, .box t x, ty, pos, af, g⟩ f W Q KK := by
  unfold bxT at h
  split at h
  · obtain ⟨h1, h⟩ := h
    exact stp_box_one hx h1 st fun b W' hb st' => k _ _ W' (h b) rfl ⟨[_], rfl⟩ hb (bx_new st') (fa.up hb)
  · exact stp_box_agg hx st fun b W' hb st' => k _ _ W' (h b) rfl ⟨[_], rfl⟩ hb (bx_new st') (fa.up hb)
  · exact h.elim
def bsU (k : Nat) : List (Nat × SV) → List Sc → List Sc
  | [], cs => cs
  | (i, v) :: ps, cs => bsU k ps (put1 cs (i * k) (tvC v))
def reps {α : Type u} (l : List α) : Nat → List α
  | 0 => []
  | n + 1 => l ++ reps l n
def elT (P : Program) (t : Nat) : Nat :=
  match P.underlying t with
  | some (.slice e) => e
  | _ => 0
def bsT (P : Program) {A : Type} {R : A → Prop} (s : S) (t : TypeId) (len : Nat) (vs : List (Nat × SV)) (d : D P R) (K : SV → S → D P R → Tr) : Tr :=
  let cs := bsU (zeros P (elT P t)).length vs (reps (zeros P (elT P t)) len)
  .e0 (fun W => (Instr.buildSlice t len (vs.map fun p => (p.1, p.2.val)).toArray).run P W) (fun W => .ok (.slice (some ⟨W.heap.size, 0, none⟩) len len) (W.alloc (.cells (cs.map Sc.val).toArray (elT P t)))) <|
    match len with
    | 0 => nrm d fun d => match d with
      | .em i k => .e0 (cs.map Sc.val) [] <| .fn fun b : Nat => K (one (.rf s.nx ⟨some ⟨b, 0, none⟩, 0, 0⟩)) ⟨s.E, (s.nx, .row i (elT P t) ⟨some ⟨b, 0, none⟩, 0, 0⟩ [] []) :: s.O, s.B, s.nx + 1⟩ k
      | _ => .no
    | n + 1 => .fn fun b : Nat => K (one (.lt s.nx b (n + 1))) (newB s cs (elT P t) b) d
theorem bsT_ok {w0 W : World} {s : S} {t : TypeId} {len : Nat} {ps : List (Nat × Operand)} {vs : List (Nat × SV)} {dd : D P R} {K : SV → S → D P R → Tr} {n : Nat} {f : Nat → Value} {Q : Exit → Act → World → Prop} {KK : Value → World → Prop} {d : Option Tmp} {ty : TypeId} {pos : String} {af : Array Go.Edge} {g : Option (Nat × Bool)}
    (hx : ps.map (fun (i, x) => (i, ev n f x)) = vs.map fun p => (p.1, p.2.val)) (h : (bsT P s t len vs dd K).holds) (st : St w0 W s.rs) (fa : Facts w0 W s.B) (k : ∀ v s' d' W', (K v s' d').holds → s'.E = s.E → (∃ N, s'.O = N ++ s.O) → Below W.heap.size W W' → St w0 W' s'.rs → Facts w0 W' s'.B → KK v.val W') : Stp P n ⟨d, .buildSlice t len ps.toArray, ty, pos, af, g⟩ f W Q KK := by
  obtain ⟨h1, h⟩ := h
  cases len with
  | zero =>
    refine nrm_ok h fun d' h => ?_
    split at h
    · next i kk =>
      obtain ⟨h2, h⟩ := h
      refine stp_buildSlice hx (congrFun h1 W) st fun b W' hb st' => k _ _ _ W' (h b) rfl ⟨[_], rfl⟩ hb ?_ (fa.up hb)
      rw [h2] at st'
      exact st'.row_empty
    · exact h.elim
  | succ m => exact stp_buildSlice hx (congrFun h1 W) st fun b W' hb st' => k _ _ _ W' (h b) rfl ⟨[_], rfl⟩ hb (bx_new st') (fa.up hb)
/-- A store into a box. -/
def stT (P : Program) (s : S) (t : TypeId) (c : Sc) (v : SV) (K : S → Tr) : Tr :=
  match c with
  | .pt j b k o => match lku s.O j with
    | some (.bx b' pre cs post t') => .e0 b b' <| .e0 k pre.length <| .e0 ((P.info? t).map (·.size)) (some (tvC v).length) <| .e0 (Nat.ble (o + (tvC v).length) cs.length) true <| .e0 ((tvC v).all fun c => c.val.oneCell') true <|
        match v with
        | .on (.ce u) => .e0 u.val.cells #[u.val] (K ⟨s.E, (j, .bx b' pre (put1 cs o (tvC v)) post t') :: delO s.O j, lasting s.B, s.nx⟩)
        | .on (.ag _) => K ⟨s.E, (j, .bx b' pre (put1 cs o (tvC v)) post t') :: delO s.O j, lasting s.B, s.nx⟩
        | _ => .no
    | _ => .no
  | _ => .no
theorem stT_ok {w0 W : World} {s : S} {t : TypeId} {x y : Operand} {c : Sc} {v : SV} {K : S → Tr} {n : Nat} {f : Nat → Value} {Q : Exit → Act → World → Prop} {KK : Value → World → Prop} {d : Option Tmp} {ty : TypeId} {pos : String} {af : Array Go.Edge} {g : Option (Nat × Bool)}
    (hx : ev n f x = c.val) (hy : ev n f y = v.val) (h : (stT P s t c v K).holds) (st : St w0 W s.rs) (fa : Facts w0 W s.B) (k : ∀ s' W', (K s').holds → s'.E = s.E → St w0 W' s'.rs → Facts w0 W' s'.B → KK undef W') : Stp P n ⟨d, .store t x y, ty, pos, af, g⟩ f W Q KK := by
  unfold stT at h
  split at h
  · split at h
    · next hj =>
      obtain ⟨rfl, rfl, h1, h2, h3, h⟩ := h
      have st2 := St.take (rs := []) (by simpa [Or, S.rs] using st) hj
      simp only [List.append_nil] at st2
      replace h2 := Nat.le_of_ble_eq_true h2
      rw [List.all_eq_true] at h3
      split at h
      · next u =>
        obtain ⟨h4, h⟩ := h
        have h5 := h3 u (by simp [tvC])
        refine stp_store_bp (i := _) h1 hx hy h4 h5 st2 rfl (by simpa [tvC] using h2) rfl fun W' st' => k _ W' h rfl ?_ fa.lasting
        show St w0 W' (Res.bx _ (_ ++ (put1 _ _ [u]).map Sc.val ++ _) _ :: _)
        rw [put1_map]
        exact st'
      · next l =>
        refine stp_store_bps (cs := l.map Sc.val) (i := _) (by simpa [tvC] using h1) hx hy ?_ st2 rfl (by simpa [tvC] using h2) rfl fun W' st' => k _ W' h rfl ?_ fa.lasting
        · intro v hv
          obtain ⟨c, hc, rfl⟩ := List.mem_map.1 hv
          exact h3 c hc
        · show St w0 W' (Res.bx _ (_ ++ (put1 _ _ l).map Sc.val ++ _) _ :: _)
          rw [put1_map]
          exact st'
      · exact h.elim
    · exact h.elim
  · exact h.elim
/-! ### Calls -/
/-- Results come into use. -/
def rkb : List Rk → S → (List TV → S → Tr) → Tr
  | [], s, K => K [] s
  | .v x :: ks, s, K => rkb ks s fun ts s => K (.ce (sc x) :: ts) s
  | .sl i xs :: ks, s, K => .fn fun g : Hd × List Nat => rkb ks ⟨s.E, (s.nx, .own i g.1 xs g.2) :: s.O, s.B, s.nx + 1⟩ fun ts s' => K (.ce (.rf s.nx g.1) :: ts) s'
  | .own i x :: ks, s, K => giveC (i.lv x) s fun cs s => rkb ks s fun ts s => K (.ag cs :: ts) s
theorem rkb_ok {G : Prop} {w0 W : World} : ∀ {ks : List Rk} {s : S} {K : List TV → S → Tr} {vs : List Value} {rs : List Res}, (rkb ks s K).holds → Rks vs ks rs → St w0 W (rs ++ s.rs) →
    (∀ ts s', (K ts s').holds → ts.map TV.val = vs → s'.E = s.E → s'.B = s.B → (∃ N, s'.O = N ++ s.O) → St w0 W s'.rs → gds ks → G) → G
  | [], s, K, [], rs, h, hr, st, k => by
    have hr : rs = [] := hr
    subst hr
    exact k [] s h rfl rfl rfl ⟨[], rfl⟩ st trivial
  | [], s, K, v :: vs, rs, h, hr, st, k => hr.elim
  | .v x :: ks, s, K, [], rs, h, hr, st, k => hr.elim
  | .sl _ _ :: ks, s, K, [], rs, h, hr, st, k => hr.elim
  | .own _ _ :: ks, s, K, [], rs, h, hr, st, k => hr.elim
  | .v x :: ks, s, K, v :: vs, rs, h, hr, st, k => by
    obtain ⟨r1, r2, ⟨rfl, rfl⟩, h2, rfl⟩ := hr
    refine rkb_ok (K := fun ts s => K (.ce (sc v) :: ts) s) h h2 st fun ts s' h' e1 e2 e3 e4 st' hg => k _ s' h' ?_ e2 e3 e4 st' hg
    rw [List.map_cons, e1, TV.val, sc_val]
  | .sl i xs :: ks, s, K, v :: vs, rs, h, hr, st, k => by
    obtain ⟨r1, r2, ⟨fp, rfl⟩, h2, rfl⟩ := hr
    have hs := own_Sl (st.get 0 rfl)
    obtain ⟨hd, rfl, hn⟩ := hs.hd
    refine rkb_ok (K := fun ts s' => K (.ce (.rf s.nx hd) :: ts) s') (h (hd, fp)) h2 ?_ fun ts s' h' e1 e2 e3 e4 st' hg => k _ s' h' ?_ e2 e3 (e4.elim fun N hN => ⟨N ++ [(s.nx, .own i hd xs fp)], by rw [hN]; simp⟩) st' ⟨hs.len_le, hg⟩
    · exact st.perm (List.perm_middle (a := Res.own hd.val xs fp) (l₁ := r2) (l₂ := s.rs))
    · rw [List.map_cons, e1]; rfl
  | .own i x :: ks, s, K, v :: vs, rs, h, hr, st, k => by
    obtain ⟨r1, r2, ⟨cs, fp, rfl, rfl⟩, h2, rfl⟩ := hr
    obtain ⟨st1, hg1⟩ := St.cs_pc i st
    refine giveC_ok (K := fun cs s => rkb ks s fun ts s => K (.ag cs :: ts) s) h st1 fun scs s1 h1 e1 e2 e3 g1 st2 hl => ?_
    refine rkb_ok (K := fun ts s => K (.ag scs :: ts) s) h1 h2 st2 fun ts s' h' e4 e5 e6 g2 st' hg => k _ s' h' ?_ (e5.trans e2) (e6.trans e3) (g1.elim fun N hN => g2.elim fun M hM => ⟨M ++ N, by rw [hM, hN, List.append_assoc]⟩) st' ⟨⟨hg1, hl⟩, hg⟩
    rw [List.map_cons, e4, TV.val, e1]
def tups : List TV → SV
  | [t] => .on t
  | ts => .tu ts
theorem tups_val (ts : List TV) : (tups ts).val = rval (ts.map TV.val) := by
  match ts with
  | [] => rfl
  | [t] => rfl
  | _ :: _ :: _ => rfl
def clT (s : S) (lk : Operand → Option SV) (F : FuncId) (xs : List Operand) (d : D P R) (K : SV → S → D P R → Tr) : Tr :=
  nrm d fun d => match d with
    | .cq (ps := ps) (rk := rk) (G := G) F' (fn := fn) _ _ _ k => .e0 F F' <| .e0 ((fn.name == "runtime.NumGoroutine") || fn.body.isNone) false <| opt (lkv lk xs) fun us => parsT s us ps <| grT s G <| rkb rk s fun ts s' => .fp (gds rk) fun hg => K (tups ts) s' (k hg)
    | .cl (ps := ps) (R' := R') (rk := rk) (G := G) F' (fn := fn) _ _ _ k => .e0 F F' <| .e0 ((fn.name == "runtime.NumGoroutine") || fn.body.isNone) false <| opt (lkv lk xs) fun us => parsT s us ps <| grT s G <| .fn fun a => .fp (R' a) fun ha => rkb (rk a) s fun ts s' => .fp (gds (rk a)) fun hg => K (tups ts) s' (k a ha hg)
    | _ => .no
theorem clT_ok {w0 W : World} {s : S} {lk : Operand → Option SV} {F : FuncId} {xs : List Operand} {ats : Array TypeId} {dd : D P R} {K : SV → S → D P R → Tr} {n : Nat} {f : Nat → Value} {Q : Exit → Act → World → Prop} {KK : Value → World → Prop} {d : Option Tmp} {ty : TypeId} {pos : String} {af : Array Go.Edge} {g : Option (Nat × Bool)}
    (hl : ∀ x u, lk x = some u → ev n f x = u.val) (h : (clT s lk F xs dd K).holds) (st : St w0 W s.rs) (fa : Facts w0 W s.B) (k : ∀ v s' d' W', (K v s' d').holds → s'.E = s.E → (∃ N, s'.O = N ++ s.O) → Below W.heap.size W W' → St w0 W' s'.rs → Facts w0 W' s'.B → KK v.val W') : Stp P n ⟨d, .call { callee := .value (.func F), args := xs.toArray, argTypes := ats }, ty, pos, af, g⟩ f W Q KK := by
  unfold clT at h
  refine nrm_ok h fun d' h => ?_
  split at h
  · next ps rk G0 F' fn hf hct hg kk =>
    obtain ⟨rfl, ho, h⟩ := h
    refine opt_ok h fun us hus h => ?_
    obtain ⟨hp, h⟩ := parsT_ok st fa h hg
    obtain ⟨hG, h⟩ := grT_ok h st.below fa
    refine stp_call hf ho (lkv_ok hl hus) ((hct.run W _ hG hp).mono ?_)
    rintro e W' ⟨_, vs, rs, _, rfl, hr, hst'⟩
    refine rkb_ok h hr (st.call hst') fun ts s' h' e1 e2 e3 e4 st' hgd => ?_
    exact ⟨_, rfl, by rw [← e1, ← tups_val]; exact k _ s' _ W' (h' hgd) e2 e4 hst'.below st' (by rw [e3]; exact fa.up hst'.below)⟩
  · next A' ps R' rk G0 F' fn hf hct hg kk =>
    obtain ⟨rfl, ho, h⟩ := h
    refine opt_ok h fun us hus h => ?_
    obtain ⟨hp, h⟩ := parsT_ok st fa h hg
    obtain ⟨hG, h⟩ := grT_ok h st.below fa
    refine stp_call hf ho (lkv_ok hl hus) ((hct.run W _ hG hp).mono ?_)
    rintro e W' ⟨a, vs, rs, ha, rfl, hr, hst'⟩
    refine rkb_ok (h a ha) hr (st.call hst') fun ts s' h' e1 e2 e3 e4 st' hgd => ?_
    exact ⟨_, rfl, by rw [← e1, ← tups_val]; exact k _ s' _ W' (h' hgd) e2 e4 hst'.below st' (by rw [e3]; exact fa.up hst'.below)⟩
  · exact h.elim
end
end Go.Proofs.YtchnllpegfbleaaDoor

/-
  Appending to what is one's own. Theory alone.
-/
namespace Go.Proofs.YtchnllpegfbleaaDoor
set_option linter.unusedSimpArgs false
set_option linter.unusedVariables false
set_option maxHeartbeats 1000000
open Go.RowKit
universe u

theorem cells_app {W : World} : ∀ {l1 l2 : List Lf} {cs : List Value} {fp : List Nat}, Cells W cs (l1 ++ l2) fp → ∃ c1 c2 f1 f2, cs = c1 ++ c2 ∧ Cells W c1 l1 f1 ∧ Cells W c2 l2 f2 ∧ fp = f1 ++ f2
  | [], l2, cs, fp, h => ⟨[], cs, [], fp, rfl, rfl, h, rfl⟩
  | .v x :: l1, l2, c :: cs, fp, h => by
    obtain ⟨c1, c2, f1, f2, rfl, h1, h2, rfl⟩ := cells_app (l1 := l1) h.2
    exact ⟨c :: c1, c2, f1, f2, rfl, ⟨h.1, h1⟩, h2, rfl⟩
  | .s β i ys :: l1, l2, c :: cs, fp, h => by
    obtain ⟨g1, g2, h0, h, rfl⟩ := h
    obtain ⟨c1, c2, f1, f2, rfl, h1, h2, rfl⟩ := cells_app (l1 := l1) h
    exact ⟨c :: c1, c2, g1 ++ f1, f2, rfl, ⟨g1, f1, h0, h1, rfl⟩, h2, by simp⟩
  | .v x :: l1, l2, [], fp, h => h.elim
  | .s β i ys :: l1, l2, [], fp, h => h.elim
def lvs {α : Type} (i : Dsh α) : List α → List Lf
  | [] => []
  | y :: ys => i.lv y ++ lvs i ys
theorem elems_of {α : Type} (i : Dsh α) {W : World} : ∀ {ys : List α} {cs : List Value} {fp : List Nat}, Cells W cs (lvs i ys) fp → (∀ y ∈ ys, i.good y) → @Elems α i.toShape W cs ys fp
  | [], [], fp, h, _ => ⟨rfl, h⟩
  | [], _ :: _, fp, h, _ => h.elim
  | y :: ys, cs, fp, h, hg => by
    obtain ⟨c1, c2, f1, f2, rfl, h1, h2, rfl⟩ := cells_app h
    exact ⟨c1, c2, f1, f2, rfl, i.inn (hg y List.mem_cons_self) h1, elems_of i h2 fun y hy => hg y (List.mem_cons_of_mem _ hy), rfl⟩
theorem plain_fe {α : Type} [Shape α] (hp : Plain α) {W : World} : ∀ {xs : List α} {cells : List Value} {fp : List Nat}, Elems W cells xs fp → fp = []
  | [], _, _, h => h.2
  | x :: xs, _, _, ⟨cs, rest, f1, f2, h1, h2, h3, h4⟩ => by rw [h4, hp _ _ _ _ h2, plain_fe hp h3]; rfl
section
variable {P : Program} {n : Nat} {f : Nat → Value} {w0 W : World} {rs : List Res} {Q : Exit → Act → World → Prop} {d : Option Tmp} {ty : TypeId} {pos : String} {af : Array Go.Edge} {g : Option (Nat × Bool)} {K : Value → World → Prop}
theorem stp_append_pc {α : Type} (i : Dsh α) {t e e' : TypeId} {bytes : Nat} {s x : Operand} {v : Value} {xs ys : List α} {fe fz : List Nat} {b m : Nat} {cs : List Value} (hT : ApOk P t e α bytes) (hs : ev n f s = v) (hx : ev n f x = .slice (some ⟨b, 0, none⟩) m m) (hm : ys.length = m) (hg : ∀ y ∈ ys, i.good y)
    (hst : St w0 W (Res.row e v xs fe :: Res.bx b cs e' :: Res.pc cs (lvs i ys) fz :: rs)) (h63 : xs.length + m ≤ maxLen) (hby : (xs.length + m) * bytes ≤ 140737488355328)
    (k : ∀ v' fe' W', St w0 W' (Res.row e v' (xs ++ ys) fe' :: rs) → K v' W') :
    Stp P n ⟨d, .call { callee := .builtin .append, args := #[s, x], argTypes := #[t, t] }, ty, pos, af, g⟩ f W Q K := by
  have hc := hst.get 2 rfl
  have hst2 : St w0 W (Res.row e v xs fe :: Res.bx b cs e' :: rs) := hst.d2
  have hb := hst.get 1 rfl
  have hn := hst.nodup
  have h2 := hst.f2
  have hn2 := h2.nodup
  rw [List.flatMap_cons, List.nodup_append] at hn2
  refine stp_append hT hs hx hm hst2 (elems_of i hc.1 hg) ?_ hc.2 hn2.1 ?_ h63 hby fun v' W' st' => k v' _ W' st'.d1
  · intro j u hj
    rw [Addr.add_mid]
    exact range_of_heap hb j u hj
  · intro a ha
    refine ⟨fun h => hn2.2.2 a ha a ?_ rfl, fun h => hn2.2.2 a ha a ?_ rfl, h2.fresh (Res.pc cs (lvs i ys) fz) (by simp) a ha⟩
    · rw [List.flatMap_cons]; exact List.mem_append_left _ h
    · rw [List.flatMap_cons]; exact List.mem_append_right _ h
end
/-- A literal becomes a slice of one's own. -/
theorem St.lit {α : Type} (i : Dsh α) {w0 W : World} {b : Nat} {cs : List Value} {t : TypeId} {ys : List α} {fp : List Nat} {rs : List Res} (hne : ys ≠ []) (hl : ys.length ≤ 1000000) (hg : ∀ y ∈ ys, i.good y) (st : St w0 W (Res.bx b cs t :: Res.pc cs (lvs i ys) fp :: rs)) : St w0 W (@Res.own (List α) _ _ (Hd.val ⟨some ⟨b, 0, none⟩, ys.length, ys.length⟩) ys (b :: fp) :: rs) := by
  have hb : W.heap[b]? = some (.cells cs.toArray t (0, 0)) := st.get 0 rfl
  have hc := st.get 1 rfl
  have he := elems_of i hc.1 hg
  refine St.trade (rs1 := [Res.bx b cs t, Res.pc cs (lvs i ys) fp]) (rs2 := [_]) st ?_ ?_ ?_
  · have hn := st.nodup
    rw [List.flatMap_cons, List.flatMap_cons, ← List.append_assoc, List.nodup_append] at hn
    simpa [Res.own, Res.bx, Res.pc] using hn.1
  · intro c hc
    simpa [Res.own, Res.bx, Res.pc] using hc
  · intro r hr
    simp only [List.mem_singleton] at hr
    subst hr
    have hsl : Sl W (Hd.val ⟨some ⟨b, 0, none⟩, ys.length, ys.length⟩) ys (b :: fp) :=
      ⟨some ⟨b, 0, none⟩, ys.length, rfl, Nat.le_refl _, by omega, .inr ⟨b, 0, fp, hne, rfl, rfl, (Array.getElem?_eq_some_iff.1 hb).1, he.at 0 (range_of_heap hb)⟩⟩
    refine ⟨hsl.v, fun c hm => ?_⟩
    rcases List.mem_cons.1 hm with rfl | hm
    · exact ⟨_, _, hb⟩
    · exact hc.2 c hm
/-! ### An own slice becomes what is left of it -/
theorem plain_nodup {α : Type} [Shape α] (hp : Plain α) {W : World} {v : Value} {xs : List α} {g : List Nat} (h : Sl W v xs g) : g.Nodup := by
  obtain ⟨ao, cap, rfl, _, _, h⟩ := h
  rcases h with ⟨_, rfl⟩ | ⟨b, o, fp, _, _, rfl, _, hs⟩
  · exact List.nodup_nil
  · rw [hs.plain hp]; simp
section
variable {P : Program} {A : Type} {R : A → Prop}
def dqT (P : Program) {A : Type} {R : A → Prop} (s : S) (t : TypeId) (c y : Sc) (d : D P R) (K : SV → S → D P R → Tr) : Tr :=
  match c, d with
  | .rf j h, .dq i _ xs n _ e _ k => match lku s.O j with
    | some (.own i' h' xs' _) => .e0 h h' <| .e1 (⟨i', xs'⟩ : Dat) ⟨i, xs⟩ <| .e0 y.val (I e) <| .e0 (elK P t) (some i.size) <|
        .fn fun g : Hd × List Nat => K (one (.rf j g.1)) ⟨s.E, (j, .own i g.1 (xs.drop n) g.2) :: delO s.O j, s.B, s.nx⟩ k
    | some (.row i' _ h' xs' _) => .e0 h h' <| .e1 (⟨i', xs'⟩ : Dat) ⟨i, xs⟩ <| .e0 y.val (I e) <| .e0 (elK P t) (some i.size) <|
        .fn fun g : Hd × List Nat => K (one (.rf j g.1)) ⟨s.E, (j, .own i g.1 (xs.drop n) g.2) :: delO s.O j, s.B, s.nx⟩ k
    | _ => .no
  | _, _ => .no
theorem dqT_ok {w0 W : World} {s : S} {t : TypeId} {x y : Operand} {c cy : Sc} {dd : D P R} {K : SV → S → D P R → Tr} {n : Nat} {f : Nat → Value} {Q : Exit → Act → World → Prop} {KK : Value → World → Prop} {d : Option Tmp} {ty : TypeId} {pos : String} {af : Array Go.Edge} {g : Option (Nat × Bool)}
    (hx : ev n f x = c.val) (hy : ev n f y = cy.val) (h : (dqT P s t c cy dd K).holds) (st : St w0 W s.rs) (fa : Facts w0 W s.B) (k : ∀ v s' d', (K v s' d').holds → s'.E = s.E → St w0 W s'.rs → Facts w0 W s'.B → KK v.val W) :
    Stp P n ⟨d, .slice t x (some y) none none, ty, pos, af, g⟩ f W Q KK := by
  unfold dqT at h
  have st1 : St w0 W (Or s.O ++ []) := by simpa [Or, S.rs] using st
  have key : ∀ {α : Type} {i : Shape α} (hp : Plain α) {xs : List α} {m : Nat} (hm : m ≤ xs.length) {e : Int} (he : e = m) {h' : Hd} {fp : List Nat} {rs : List Res} (h1 : c.val = h'.val) (h2 : cy.val = I e) (h3 : elK P t = some i.size) (st2 : St w0 W (Res.own h'.val xs fp :: rs)) (kk : ∀ (hd : Hd) (g : List Nat), St w0 W (Res.own hd.val (xs.drop m) g :: rs) → KK hd.val W), Stp P n ⟨d, .slice t x (some y) none none, ty, pos, af, g⟩ f W Q KK := by
    intro α i hp xs m hm e he h' fp rs h1 h2 h3 st2 kk
    have hs := own_Sl (st2.get 0 rfl)
    obtain ⟨u, gg, hs', hsub, hstep⟩ := slq_l hs hm
    obtain ⟨hd2, rfl, _⟩ := hs'.hd
    obtain ⟨e2, hT⟩ := slOk_elK h3
    refine hstep hT (hx.trans h1) (hy.trans h2) he (kk hd2 gg ?_)
    refine St.trade (rs1 := [Res.own h'.val xs fp]) (rs2 := [Res.own hd2.val (xs.drop m) gg]) st2 ?_ ?_ ?_
    · simpa [Res.own] using plain_nodup hp hs'
    · intro b hb
      simp only [List.flatMap_cons, List.flatMap_nil, List.append_nil, Res.own] at hb ⊢
      exact hsub b hb
    · intro r hr
      simp only [List.mem_singleton] at hr
      subst hr
      exact ⟨hs'.v, fun b hb => (st2.get 0 rfl).2 b (hsub b hb)⟩
  split at h
  · next α j hd i hp xs m hm e he kk =>
    split at h
    · next i' h' xs' fp hj =>
      obtain ⟨rfl, h4, h5, h6, h7⟩ := h
      simp only [Dat.mk.injEq] at h4
      obtain ⟨rfl, h8, h9⟩ := h4
      obtain ⟨rfl, rfl⟩ := And.intro (eq_of_heq h8) (eq_of_heq h9)
      have st2 := st1.take hj
      refine key hp hm he rfl h5 h6 st2 fun hd2 gg st3 => k _ _ _ (h7 (hd2, gg)) rfl ?_ fa
      have st4 := st3
      rw [List.append_nil] at st4
      exact st4
    · next i' te h' xs' fe hj =>
      obtain ⟨rfl, h4, h5, h6, h7⟩ := h
      simp only [Dat.mk.injEq] at h4
      obtain ⟨rfl, h8, h9⟩ := h4
      obtain ⟨rfl, rfl⟩ := And.intro (eq_of_heq h8) (eq_of_heq h9)
      obtain ⟨fp, st2⟩ := St.shut (st1.take hj)
      refine key hp hm he rfl h5 h6 st2 fun hd2 gg st3 => k _ _ _ (h7 (hd2, gg)) rfl ?_ fa
      have st4 := st3
      rw [List.append_nil] at st4
      exact st4
    · exact h.elim
  · exact h.elim
/-- The row that is appended to: its number, and it is owned. -/
def rowOf (s : S) (c : Sc) : Option (Nat × List (Nat × Ob) × Nat) :=
  match c with
  | .rf j _ => match lku s.O j with
    | some (.row _ e _ _ _) => some (j, s.O, e)
    | _ => none
  | _ => none
def apRow {α : Type} (P : Program) (s : S) (t : TypeId) (c : Sc) (i : Shape α) (xs : List α) (bytes : Nat) (K : Nat → TypeId → List (Nat × Ob) → Nat → Tr) : Tr :=
  .e0 (P.underlying t) (some (.slice (elT P t))) <| .e0 ((P.info? (elT P t)).bind (fun i => i.zero.map (fun z => (i.size, i.bytes, z.cells.size)))) (some (i.size, bytes, i.size)) <| .e0 (Nat.ble 1 i.size) true <|
    match c with
    | .rf j h => match lku s.O j with
      | some (.row i' e h' xs' _) => .e0 h h' <| .e0 e (elT P t) <| .e1 (⟨i', xs'⟩ : Dat) ⟨i, xs⟩ (K j e (delO s.O j) s.nx)
      | _ => .no
    | .vl (.slice none 0 0) => .e1 (⟨i, []⟩ : Dat) ⟨i, xs⟩ (K s.nx (elT P t) s.O (s.nx + 1))
    | _ => .no
theorem apRow_ok {G : Prop} {α : Type} {s : S} {t : TypeId} {c : Sc} {i : Shape α} {xs : List α} {bytes : Nat} {K : Nat → TypeId → List (Nat × Ob) → Nat → Tr} {w0 W : World} (h : (apRow P s t c i xs bytes K).holds) (st : St w0 W s.rs)
    (k : ∀ j e O nx fe, (K j e O nx).holds → ApOk P t e α bytes → St w0 W (Res.row e c.val xs fe :: Or O) → G) : G := by
  obtain ⟨h1, h2, h3, h⟩ := h
  have hT : ApOk P t (elT P t) α bytes := apOk h1 h2 (Nat.le_of_ble_eq_true h3)
  split at h
  · split at h
    · next j hd _ i' e h' xs' fe hj =>
      obtain ⟨rfl, rfl, h4, h⟩ := h
      simp only [Dat.mk.injEq] at h4
      obtain ⟨rfl, h5, h6⟩ := h4
      obtain ⟨rfl, rfl⟩ := And.intro (eq_of_heq h5) (eq_of_heq h6)
      have st2 := St.take (rs := []) (by simpa [Or, S.rs] using st) hj
      simp only [List.append_nil] at st2
      exact k _ _ _ _ fe h hT st2
    · exact h.elim
  · obtain ⟨h4, h⟩ := h
    simp only [Dat.mk.injEq, heq_eq_eq, true_and] at h4
    subst h4
    exact k _ _ _ _ [] h hT (st.row_nil _)
  · exact h.elim
def apT (P : Program) {A : Type} {R : A → Prop} (s : S) (t : TypeId) (c y : Sc) (d : D P R) (K : SV → S → D P R → Tr) : Tr :=
  nrm d fun d => match d with
    | .ap i xs ys _ bytes _ _ k => apRow P s t c i.toShape xs bytes fun j e O nx => match y with
      | .lt j2 b m => .e0 ys.length m <| match lku O j2 with
        | some (.bx b' pre cs post e') => .e0 b b' <| .e0 pre [] <| .e0 post [] <| takeC (delO O j2) cs (lvs i ys) fun O' =>
            .fn fun g : Hd × List Nat => K (one (.rf j g.1)) ⟨s.E, (j, .row i.toShape e g.1 (xs ++ ys) g.2) :: O', lasting s.B, nx⟩ k
        | _ => .no
      | _ => .no
    | .as i _ xs ys bytes _ _ k => apRow P s t c i xs bytes fun j e O nx => slT ⟨s.E, O, s.B, s.nx⟩ y i ys <|
        .fn fun g : Hd × List Nat => K (one (.rf j g.1)) ⟨s.E, (j, .row i e g.1 (xs ++ ys) g.2) :: O, lasting s.B, nx⟩ k
    | _ => .no
theorem apT_ok {w0 W : World} {s : S} {t : TypeId} {x y : Operand} {c cy : Sc} {dd : D P R} {K : SV → S → D P R → Tr} {n : Nat} {f : Nat → Value} {Q : Exit → Act → World → Prop} {KK : Value → World → Prop} {d : Option Tmp} {ty : TypeId} {pos : String} {af : Array Go.Edge} {g : Option (Nat × Bool)}
    (hx : ev n f x = c.val) (hy : ev n f y = cy.val) (h : (apT P s t c cy dd K).holds) (st : St w0 W s.rs) (fa : Facts w0 W s.B) (k : ∀ v s' d' W', (K v s' d').holds → s'.E = s.E → St w0 W' s'.rs → Facts w0 W' s'.B → KK v.val W') :
    Stp P n ⟨d, .call { callee := .builtin .append, args := #[x, y], argTypes := #[t, t] }, ty, pos, af, g⟩ f W Q KK := by
  unfold apT at h
  refine nrm_ok h fun d' h1 => ?_
  clear h
  split at h1
  · next α i xs ys hg bytes h63 hby kk =>
    refine apRow_ok h1 st fun j e O nx fe h hT st2 => ?_
    clear h1
    split at h
    · next j2 b m =>
      obtain ⟨rfl, h2⟩ := h
      split at h2
      · next b' pre cs post e' hj =>
        obtain ⟨rfl, rfl, rfl, h⟩ := h2
        have st3 : St w0 W (Or O ++ [Res.row e c.val xs fe]) := st2.perm (List.perm_append_comm.trans (by simp))
        have st4 := st3.take hj
        have st5 : St w0 W (Or (delO O j2) ++ [Res.row e c.val xs fe, Res.bx b (cs.map Sc.val) e']) := by
          have := st4
          simp only [Ob.res, List.nil_append, List.append_nil] at this
          exact this.perm (by
            refine (List.perm_append_comm (l₁ := Or (delO O j2)) (l₂ := [Res.row e c.val xs fe, Res.bx b (cs.map Sc.val) e'])).trans ?_
            refine (List.Perm.swap _ _ _).trans ?_
            exact (List.perm_append_comm (l₁ := [Res.row e c.val xs fe]) (l₂ := Or (delO O j2))).cons _)
        refine takeC_ok h st5 fun O' fp h' st6 => ?_
        have st7 : St w0 W (Res.row e c.val xs fe :: Res.bx b (cs.map Sc.val) e' :: Res.pc (cs.map Sc.val) (lvs i ys) fp :: Or O') := by
          refine st6.perm ?_
          refine (List.perm_append_comm (l₁ := [Res.row e c.val xs fe, Res.bx b (cs.map Sc.val) e']) (l₂ := Res.pc (cs.map Sc.val) (lvs i ys) fp :: Or O')).trans ?_
          exact List.Perm.refl _
        refine stp_append_pc i hT hx hy rfl hg st7 h63 hby fun v' fe' W' st' => ?_
        have hs := row_Sl (st'.get 0 rfl)
        obtain ⟨hd, rfl, hn⟩ := hs.hd
        exact k _ _ _ W' (h' (hd, fe')) rfl st' fa.lasting
      · exact h2.elim
    · exact h.elim
  · next α i hp xs ys bytes h63 hby kk =>
    refine apRow_ok h1 st fun j e O nx fe h hT st2 => ?_
    obtain ⟨⟨fp, hs⟩, h⟩ := slT_ok h (w0 := w0) (W := W) st2.d0 fa
    have hfe : fe = [] := by
      obtain ⟨⟨cells, _, he⟩, _⟩ := st2.get 0 rfl
      exact plain_fe hp he
    subst hfe
    refine stp_append_sl hp hT hx hy hs (Below.refl _ _) st2 h63 hby fun v' W' st' => ?_
    have hs := row_Sl (st'.get 0 rfl)
    obtain ⟨hd, rfl, hn⟩ := hs.hd
    exact k _ _ _ W' (h (hd, [])) rfl st' fa.lasting
  · exact h1.elim
end
end Go.Proofs.YtchnllpegfbleaaDoor

/-
  Calls that are handed a pointer to what is one's own; elements that are lent. Theory alone.
-/
namespace Go.Proofs.YtchnllpegfbleaaDoor
set_option linter.unusedSimpArgs false
set_option linter.unusedVariables false
set_option maxHeartbeats 1000000
open Go.RowKit
universe u
section
variable {P : Program} {A : Type} {R : A → Prop}
theorem split3 (cs : List Sc) (o m : Nat) : cs = cs.take o ++ ((cs.drop o).take m ++ cs.drop (o + m)) := by
  rw [← List.drop_drop, List.take_append_drop, List.take_append_drop]
def cmT (s : S) (lk : Operand → Option SV) (F : FuncId) (xs : List Operand) (d : D P R) (K : SV → S → D P R → Tr) : Tr :=
  nrm d fun d => match d with
    | .cm (ps := ps) (i := i) (x := x) (R' := R') (y := y) (rk := rk) F' (fn := fn) _ _ _ k => .e0 F F' <| .e0 ((fn.name == "runtime.NumGoroutine") || fn.body.isNone) false <| opt (lkv lk xs) fun us => match us with
      | .on (.ce (.pt j b q o)) :: us => match lku s.O j with
        | some (.bx b' pre cs post t) => .e0 b b' <| .e0 q pre.length <| .e0 (Nat.ble (o + (i.lv x).length) cs.length) true <|
            takeC (delO s.O j) ((cs.drop o).take (i.lv x).length) (i.lv x) fun O' => parsT ⟨[], [], lasting s.B, 0⟩ us ps <|
            .fn fun a => .fp (R' a) fun ha => giveC (i.lv (y a)) ⟨s.E, O', lasting s.B, s.nx⟩ fun scs s2 => .fp (lns (i.lv (y a))) fun hn => rkb (rk a) ⟨s2.E, (j, .bx b' pre (cs.take o ++ (scs ++ cs.drop (o + (i.lv x).length))) post t) :: s2.O, s2.B, s2.nx⟩ fun ts s3 => .fp (gds (rk a)) fun hg => K (tups ts) s3 (k a ha hn hg)
        | _ => .no
      | _ => .no
    | _ => .no
theorem Facts.base {w0 W : World} : ∀ {B : List (Nat × Bool × Bo)}, Facts w0 W B → Facts w0 w0 (Go.Proofs.YtchnllpegfbleaaDoor.lasting B) := fun h => h.lasting
theorem cmT_ok {w0 W : World} {s : S} {lk : Operand → Option SV} {F : FuncId} {xs : List Operand} {ats : Array TypeId} {dd : D P R} {K : SV → S → D P R → Tr} {n : Nat} {f : Nat → Value} {Q : Exit → Act → World → Prop} {KK : Value → World → Prop} {d : Option Tmp} {ty : TypeId} {pos : String} {af : Array Go.Edge} {g : Option (Nat × Bool)}
    (hl : ∀ x u, lk x = some u → ev n f x = u.val) (h : (cmT s lk F xs dd K).holds) (st : St w0 W s.rs) (fa : Facts w0 W s.B) (k : ∀ v s' d' W', (K v s' d').holds → s'.E = s.E → St w0 W' s'.rs → Facts w0 W' s'.B → KK v.val W') : Stp P n ⟨d, .call { callee := .value (.func F), args := xs.toArray, argTypes := ats }, ty, pos, af, g⟩ f W Q KK := by
  unfold cmT at h
  refine nrm_ok h fun d' h1 => ?_
  clear h
  split at h1
  · next ps α i x A' R' y rk F' fn hf hct hg kk =>
    obtain ⟨rfl, ho, h1⟩ := h1
    refine opt_ok h1 fun us hus h2 => ?_
    clear h1
    split at h2
    · next j b q o us' =>
      split at h2
      · next b' pre cs post t hj =>
        obtain ⟨rfl, rfl, hle, h3⟩ := h2
        have st1 : St w0 W (Or s.O ++ []) := by simpa [Or, S.rs] using st
        have st2 := st1.take hj
        have st3 : St w0 W (Or (delO s.O j) ++ [Res.bx b (pre ++ cs.map Sc.val ++ post) t]) := by
          have : St w0 W (Res.bx b (pre ++ cs.map Sc.val ++ post) t :: (Or (delO s.O j) ++ [])) := st2
          rw [List.append_nil] at this
          exact this.perm List.perm_append_comm
        refine takeC_ok h3 st3 fun O' fp h4 st4 => ?_
        obtain ⟨hp, h5⟩ := parsT_ok (s := ⟨[], [], lasting s.B, 0⟩) (w0 := w0) (W := w0) (St.start w0) fa.base h4 hg
        have hlen : ((cs.drop o).take (i.lv x).length).length = (i.lv x).length := by
          have := Nat.le_of_ble_eq_true hle
          rw [List.length_take, List.length_drop]; omega
        have hto : (cs.take o).length = o := by
          have := Nat.le_of_ble_eq_true hle
          rw [List.length_take]; omega
        have e1 : pre ++ cs.map Sc.val ++ post = (pre ++ (cs.take o).map Sc.val) ++ ((cs.drop o).take (i.lv x).length).map Sc.val ++ ((cs.drop (o + (i.lv x).length)).map Sc.val ++ post) := by
          conv => lhs; rw [split3 cs o (i.lv x).length]
          simp [List.map_append, List.append_assoc]
        have e2 : (pre ++ (cs.take o).map Sc.val).length = pre.length + o := by rw [List.length_append, List.length_map, hto]
        have st5 : St w0 W (Res.bx b ((pre ++ (cs.take o).map Sc.val) ++ ((cs.drop o).take (i.lv x).length).map Sc.val ++ ((cs.drop (o + (i.lv x).length)).map Sc.val ++ post)) t :: Res.pc (((cs.drop o).take (i.lv x).length).map Sc.val) (i.lv x) fp :: Or O') := by
          rw [← e1]
          refine st4.perm ?_
          refine (List.perm_append_comm (l₁ := [Res.bx b (pre ++ cs.map Sc.val ++ post) t]) (l₂ := Res.pc (((cs.drop o).take (i.lv x).length).map Sc.val) (i.lv x) fp :: Or O')).trans ?_
          exact List.Perm.refl _
        have hc := hct.run w0 W b _ _ t _ fp (us'.map SV.val) _ st5 hp
        rw [e2] at hc
        refine stp_call hf ho (lkv_ok hl hus) (hc.mono ?_)
        rintro e W' ⟨a, vs, cs', fp', rr, ha, rfl, hr, st6⟩
        have h6 := h5 a ha
        have st7 : St w0 W' (Res.pc cs' (i.lv (y a)) fp' :: ((Res.bx b ((pre ++ (cs.take o).map Sc.val) ++ cs' ++ ((cs.drop (o + (i.lv x).length)).map Sc.val ++ post)) t :: rr) ++ Or O')) := st6.swap
        refine giveC_ok (s := ⟨s.E, O', lasting s.B, s.nx⟩) h6 st7 fun scs s2 h7 e3 e4 e5 _ st8 hn => ?_
        have h8 := h7 hn
        have e9 : (pre ++ (cs.take o).map Sc.val) ++ cs' ++ ((cs.drop (o + (i.lv x).length)).map Sc.val ++ post) = pre ++ (cs.take o ++ (scs ++ cs.drop (o + (i.lv x).length))).map Sc.val ++ post := by
          rw [← e3]; simp [List.map_append, List.append_assoc]
        have st9 : St w0 W' (rr ++ S.rs ⟨s2.E, (j, .bx b pre (cs.take o ++ (scs ++ cs.drop (o + (i.lv x).length))) post t) :: s2.O, s2.B, s2.nx⟩) := by
          rw [e9] at st8
          exact st8.perm (List.perm_middle (a := (Ob.bx b pre (cs.take o ++ (scs ++ cs.drop (o + (i.lv x).length))) post t).res) (l₁ := rr) (l₂ := s2.rs))
        refine rkb_ok h8 hr st9 fun ts s3 h9 e6 e7 e8 _ st10 hgd => ?_
        have fa3 : Facts w0 W' s3.B := by
          rw [e8]
          show Facts w0 W' s2.B
          rw [e5]
          exact fa.lasting
        exact ⟨_, rfl, by rw [← e6, ← tups_val]; exact k _ s3 _ W' (h9 hgd) (e7.trans e4) st10 fa3⟩
      · exact h2.elim
    · exact h2.elim
  · exact h1.elim
/-! ### Elements that are lent -/
theorem St.lendG {α : Type} (i : Dsh α) (hp : Nat.ble 1 i.size = true) {w0 W : World} {rs : List Res} {v : Value} {xs : List α} {fp : List Nat} (h : St w0 W (@Res.own (List α) (@instShapeList α i.toShape) _ v xs fp :: rs)) {n : Nat} {x : α} (hi : xs[n]? = some x) :
    ∃ b e pre cs post fi fr, i.good x ∧ St w0 W (Res.pc cs (i.lv x) fi :: (Res.bx b (pre ++ cs ++ post) e :: @Res.rest α i.toShape v b pre post xs n fr :: rs)) := by
  obtain ⟨b, e, pre, cs, post, fi, fr, _, hc, st⟩ := St.lendx (Nat.le_of_ble_eq_true hp) h hi
  obtain ⟨st2, hg⟩ := St.cs_pc i st.f1
  exact ⟨b, e, pre, cs, post, fi, fr, hg, st2⟩
theorem St.giveG {α : Type} (i : Dsh α) {w0 W : World} {rs : List Res} {v : Value} {xs : List α} {b n : Nat} {e : TypeId} {pre cs post : List Value} {y : α} {fi fr : List Nat} (hg : i.good y)
    (h : St w0 W (Res.pc cs (i.lv y) fi :: (Res.bx b (pre ++ cs ++ post) e :: @Res.rest α i.toShape v b pre post xs n fr :: rs))) : ∃ fp, St w0 W (@Res.own (List α) (@instShapeList α i.toShape) _ v (xs.set n y) fp :: rs) :=
  St.give (St.pc_cs i h hg).swap
/-- Element n of slice j is lent, as a box. -/
def leT {α : Type} (i : Dsh α) (j : Nat) (xs : List α) (n : Nat) (x : α) (s : S) (K : i.good x → S → Tr) : Tr :=
  match lku s.O j with
  | some (.own i' h xs' _) => .e1 (⟨i', xs'⟩ : Dat) ⟨i.toShape, xs⟩ <| .e0 (Nat.ble 1 i.size) true <| .fn fun G : (Nat × TypeId × List Value) × (List Value × List Nat) =>
      giveC (i.lv x) ⟨s.E, (j, .rs i.toShape h G.1.1 G.1.2.2 G.2.1 xs n G.2.2 s.nx) :: delO s.O j, s.B, s.nx + 1⟩ fun scs s2 => .fp (i.good x) fun hg => K hg ⟨s2.E, (s.nx, .bx G.1.1 G.1.2.2 scs G.2.1 G.1.2.1) :: s2.O, s2.B, s2.nx⟩
  | _ => .no
theorem leT_ok {G : Prop} {α : Type} {i : Dsh α} {j : Nat} {xs : List α} {n : Nat} {x : α} (hx : xs[n]? = some x) {s : S} {K : i.good x → S → Tr} {w0 W : World} {f : Nat → Value} (h : (leT i j xs n x s K).holds) (den : Den w0 s f W)
    (k : ∀ hg s', (K hg s').holds → Den w0 s' f W → G) : G := by
  unfold leT at h
  split at h
  · next i' h' xs' fp hj =>
    obtain ⟨h1, h2, h3⟩ := h
    simp only [Dat.mk.injEq] at h1
    obtain ⟨rfl, h5, h6⟩ := h1
    obtain ⟨rfl, rfl⟩ := And.intro (eq_of_heq h5) (eq_of_heq h6)
    have st1 : St w0 W (Or s.O ++ []) := by simpa [Or, S.rs] using den.st
    obtain ⟨b, e, pre, cs, post, fi, fr, hg, st2⟩ := St.lendG i h2 (st1.take hj) hx
    rw [List.append_nil] at st2
    refine giveC_ok (rs := [Res.bx b (pre ++ cs ++ post) e]) (h3 ((b, e, pre), (post, fr))) st2 fun scs s2 h4 e1 e2 e3 _ st3 hn => k hg _ (h4 hg) ⟨by rw [e2]; exact den.fr, ?_, by rw [e3]; exact den.fa⟩
    rw [← e1] at st3
    exact st3
  · exact h.elim
/-- It is given back, as y. -/
def giT {α : Type} (i : Dsh α) (j : Nat) (xs : List α) (y : α) (s : S) (K : S → Tr) : Tr :=
  match lku s.O j with
  | some (.rs i' h b pre post xs' n _ r) => .e1 (⟨i', xs'⟩ : Dat) ⟨i.toShape, xs⟩ <| match lku (delO s.O j) r with
    | some (.bx b' pre' cs post' _) => .e0 b' b <| .e0 pre' pre <| .e0 post' post <| takeC (delO (delO s.O j) r) cs (i.lv y) fun O' => .fn fun fp : List Nat => K ⟨s.E, (j, .own i.toShape h (xs.set n y) fp) :: O', s.B, s.nx⟩
    | _ => .no
  | _ => .no
theorem giT_ok {G : Prop} {α : Type} {i : Dsh α} {j : Nat} {xs : List α} {y : α} (hy : i.good y) {s : S} {K : S → Tr} {w0 W : World} {f : Nat → Value} (h : (giT i j xs y s K).holds) (den : Den w0 s f W)
    (k : ∀ s', (K s').holds → Den w0 s' f W → G) : G := by
  unfold giT at h
  split at h
  · next i' h' b pre post xs' n fr r hj =>
    obtain ⟨h1, h2⟩ := h
    simp only [Dat.mk.injEq] at h1
    obtain ⟨rfl, h5, h6⟩ := h1
    obtain ⟨rfl, rfl⟩ := And.intro (eq_of_heq h5) (eq_of_heq h6)
    split at h2
    · next b' pre' cs post' t hr =>
      obtain ⟨rfl, rfl, rfl, h3⟩ := h2
      have st1 : St w0 W (Or s.O ++ []) := by simpa [Or, S.rs] using den.st
      have st2 := st1.take hj
      have st3 : St w0 W (Or (delO s.O j) ++ [@Res.rest _ i.toShape h'.val b' pre' post' xs' n fr]) := by
        refine st2.perm ?_
        rw [List.append_nil]
        exact List.perm_append_comm (l₁ := Or (delO s.O j)) (l₂ := [_])
      have st4 := st3.take hr
      have st5 : St w0 W (Or (delO (delO s.O j) r) ++ [Res.bx b' (pre' ++ cs.map Sc.val ++ post') t, @Res.rest _ i.toShape h'.val b' pre' post' xs' n fr]) :=
        st4.perm (List.perm_middle (a := Res.bx b' (pre' ++ cs.map Sc.val ++ post') t))
      refine takeC_ok h3 st5 fun O' fp h4 st6 => ?_
      have st7 : St w0 W (Res.pc (cs.map Sc.val) (i.lv y) fp :: (Res.bx b' (pre' ++ cs.map Sc.val ++ post') t :: @Res.rest _ i.toShape h'.val b' pre' post' xs' n fr :: Or O')) :=
        st6.perm ((List.perm_append_comm (l₁ := [Res.bx b' (pre' ++ cs.map Sc.val ++ post') t, @Res.rest _ i.toShape h'.val b' pre' post' xs' n fr]) (l₂ := Or O')).cons _)
      obtain ⟨fp2, st8⟩ := St.giveG i hy st7
      exact k _ (h4 fp2) ⟨den.fr, st8, den.fa⟩
    · exact h2.elim
  · exact h.elim
end
end Go.Proofs.YtchnllpegfbleaaDoor

/-
  Whole regions, whole bodies. Theory alone.
-/
namespace Go.Proofs.YtchnllpegfbleaaDoor
set_option linter.unusedSimpArgs false
set_option linter.unusedVariables false
set_option maxHeartbeats 1000000
open Go.RowKit
universe u

section
variable {P : Program} {A : Type} {R : A → Prop}
def opd (n : Nat) (s : S) : Operand → Option SV
  | .tmp t => cond (Nat.ble (t + 1) n) (lku s.E t) none
  | .const v => some (one (.vl v))
  | .global _ => none
  | .func g => some (one (.vl (.func (.func g) #[] #[])))
theorem opd_ok {n : Nat} {s : S} {f : Nat → Value} (h : Fr s.E f) (x : Operand) (u : SV) (e : opd n s x = some u) : ev n f x = u.val := by
  cases x with
  | tmp t =>
    simp only [opd] at e
    cases hb : Nat.ble (t + 1) n with
    | true => rw [hb] at e; simp only [ev, hb, cond_true]; exact h t u e
    | false => rw [hb] at e; cases e
  | const v => simp only [opd, Option.some.injEq] at e; subst e; rfl
  | global g => cases e
  | func g => simp only [opd, Option.some.injEq] at e; subst e; rfl
/-- What the reader is told of the state, ahead of the next step. -/
def prp : D P R → S → (S → D P R → Tr) → Tr
  | .ex (p := p) _ k, s, K => .fn fun x => .fp (p x) fun hx => prp (k x hx) s K
  | .oc (p := p) (q := q) _ a b, s, K => .an (.fp p fun h => prp (a h) s K) (.fp q fun h => prp (b h) s K)
  | .ab _, _, _ => .ok
  | .rw i j xs ys _ k, s, K => match lku s.O j with
    | some (.own i' h xs' fp) => .e1 (⟨i', xs'⟩ : Dat) ⟨i, xs⟩ (prp k ⟨s.E, (j, .own i h ys fp) :: delO s.O j, s.B, s.nx⟩ K)
    | some (.row i' e h xs' fe) => .e1 (⟨i', xs'⟩ : Dat) ⟨i, xs⟩ (prp k ⟨s.E, (j, .row i e h ys fe) :: delO s.O j, s.B, s.nx⟩ K)
    | _ => .no
  | .rv t x (y := y) _ k, s, K => match lku s.E t with
    | some v => .e0 v.val y (prp k ⟨(t, one (.vl x)) :: s.E, s.O, s.B, s.nx⟩ K)
    | none => .no
  | .rd i r j xs n _ k, s, K => match lku s.B (r + 2000000), slOf s j with
    | some (_, .dv h2 h1 a sz), some (l, h', d) => .e0 h' h1 <| .e0 a n <| .e0 sz i.size <| .e1 d ⟨i, xs⟩ <| .fn fun fp : List Nat => prp k ⟨s.E, s.O, (r, l, .sl i h2 (xs.drop n) fp) :: s.B, s.nx⟩ K
    | _, _ => .no
  | .li i t ys hne hl hg k, s, K => match lku s.E t with
    | some (.on (.ce (.lt j b n))) => match lku s.O j with
      | some (.bx b' pre cs post _) => .e0 b b' <| .e0 pre [] <| .e0 post [] <| .e0 n ys.length <| takeC (delO s.O j) cs (lvs i ys) fun O' => .fn fun fp : List Nat =>
          prp k ⟨(t, one (.rf j ⟨some ⟨b, 0, none⟩, ys.length, ys.length⟩)) :: s.E, (j, .own i.toShape ⟨some ⟨b, 0, none⟩, ys.length, ys.length⟩ ys (b :: fp)) :: O', s.B, s.nx⟩ K
      | _ => .no
    | _ => K s (.li i t ys hne hl hg k)
  | .r0 i e k, s, K => prp k ⟨s.E, (s.nx, .row i e ⟨none, 0, 0⟩ [] []) :: s.O, s.B, s.nx + 1⟩ K
  | .rn i e t k, s, K => match lku s.E t with
    | some (.on (.ce (.vl (.slice none 0 0)))) => prp k ⟨(t, one (.rf s.nx ⟨none, 0, 0⟩)) :: s.E, (s.nx, .row i e ⟨none, 0, 0⟩ [] []) :: s.O, s.B, s.nx + 1⟩ K
    | _ => K s (.rn i e t k)
  | .le i j xs n x hx k, s, K => match lku s.O j with
    | some _ => leT i j xs n x s fun hg s => prp (k hg) s K
    | none => K s (.le i j xs n x hx k)
  | .gi i j xs y _ k, s, K => giT i j xs y s fun s => prp k s K
  | d, s, K => K s d
theorem prp_ok {G : Prop} {w0 : World} {f : Nat → Value} {W : World} : ∀ {d : D P R} {s : S} {K : S → D P R → Tr}, (prp d s K).holds → Den w0 s f W → (∀ s' d', (K s' d').holds → Den w0 s' f W → G) → G := by
  intro d
  induction d with
  | ex h k ih =>
    intro s K hh den kk
    obtain ⟨x, hx⟩ := h
    exact ih x hx (hh x hx) den kk
  | oc h a b iha ihb =>
    intro s K hh den kk
    rcases h with h | h
    · exact iha h (hh.1 h) den kk
    · exact ihb h (hh.2 h) den kk
  | ab h => exact fun _ _ _ => h.elim
  | rw i j xs ys he k ih =>
    intro s K hh den kk
    subst he
    unfold prp at hh
    split at hh
    · next i' h xs' fp hj =>
      obtain ⟨h4, hh⟩ := hh
      simp only [Dat.mk.injEq] at h4
      obtain ⟨rfl, h5, h6⟩ := h4
      obtain ⟨rfl, rfl⟩ := And.intro (eq_of_heq h5) (eq_of_heq h6)
      refine ih hh ⟨den.fr, ?_, den.fa⟩ kk
      have := St.take (rs := []) (by simpa [Or, S.rs] using den.st) hj
      simpa [Or, S.rs] using this
    · next i' te h xs' fp hj =>
      obtain ⟨h4, hh⟩ := hh
      simp only [Dat.mk.injEq] at h4
      obtain ⟨rfl, h5, h6⟩ := h4
      obtain ⟨rfl, rfl⟩ := And.intro (eq_of_heq h5) (eq_of_heq h6)
      refine ih hh ⟨den.fr, ?_, den.fa⟩ kk
      have := St.take (rs := []) (by simpa [Or, S.rs] using den.st) hj
      simpa [Or, S.rs] using this
    · exact hh.elim
  | rv t x he k ih =>
    intro s K hh den kk
    subst he
    unfold prp at hh
    split at hh
    · next v hv =>
      obtain ⟨h1, hh⟩ := hh
      exact ih hh ⟨den.fr.know t _ ((den.fr t v hv).trans h1), den.st, den.fa⟩ kk
    · exact hh.elim
  | rd i r j xs n hn k ih =>
    intro s K hh den kk
    unfold prp at hh
    split at hh
    · next l0 h2 h1 a sz l h' d hB hS =>
      obtain ⟨rfl, rfl, rfl, rfl, h3⟩ := hh
      have hdv := den.fa _ (lku_mem hB)
      have hdv : h2.val = sliced h'.ao a h'.n h'.cap i.size := by
        cases l0 <;> exact hdv
      obtain ⟨fp, hs⟩ := slOf_ok hS den.st den.fa
      obtain ⟨g, hs', _⟩ := slq_l2 hs hn
      refine ih (h3 g) ⟨den.fr, den.st, fun e he => ?_⟩ kk
      rcases List.mem_cons.1 he with rfl | he
      · show Sl _ h2.val _ _
        rw [hdv]
        exact hs'
      · exact den.fa e he
    · exact hh.elim
  | li i t ys hne hl hg k ih =>
    intro s K hh den kk
    unfold prp at hh
    split at hh
    · next j b n hE =>
      split at hh
      · next b' pre cs post t' hj =>
        obtain ⟨rfl, rfl, rfl, rfl, h3⟩ := hh
        have st1 : St w0 W (Or s.O ++ []) := by simpa [Or, S.rs] using den.st
        have st2 := st1.take hj
        have st3 : St w0 W (Or (delO s.O j) ++ [Res.bx b (cs.map Sc.val) t']) := by
          have h4 : St w0 W (Res.bx b ([] ++ cs.map Sc.val ++ []) t' :: (Or (delO s.O j) ++ [])) := st2
          rw [List.append_nil, List.append_nil, List.nil_append] at h4
          exact h4.perm (List.perm_append_comm (l₁ := Or (delO s.O j)) (l₂ := [_]))
        refine takeC_ok h3 st3 fun O' fp h5 st4 => ?_
        have st5 : St w0 W (Res.bx b (cs.map Sc.val) t' :: Res.pc (cs.map Sc.val) (lvs i ys) fp :: Or O') := by
          refine st4.perm ?_
          refine (List.Perm.swap _ _ _).trans ?_
          exact (List.perm_append_comm (l₁ := [Res.bx b (cs.map Sc.val) t']) (l₂ := Or O')).cons _
        have st6 := St.lit i hne hl hg st5
        refine ih (h5 fp) ⟨?_, st6, den.fa⟩ kk
        have e := den.fr t _ hE
        exact den.fr.know t _ e
      · exact hh.elim
    · exact kk _ _ hh den
  | r0 i e k ih =>
    intro s K hh den kk
    exact ih hh ⟨den.fr, den.st.row_nil e, den.fa⟩ kk
  | rn i e t k ih =>
    intro s K hh den kk
    unfold prp at hh
    split at hh
    · next hv =>
      have e1 := den.fr t _ hv
      exact ih hh ⟨den.fr.know t (one (.rf s.nx ⟨none, 0, 0⟩)) e1, den.st.row_nil e, den.fa⟩ kk
    · exact kk _ _ hh den
  | le i j xs n x hx k ih =>
    intro s K hh den kk
    unfold prp at hh
    split at hh
    · exact leT_ok hx hh den fun hg s' h' den' => ih hg h' den' kk
    · exact kk _ _ hh den
  | gi i j xs y hy k ih =>
    intro s K hh den kk
    exact giT_ok hy hh den fun s' h' den' => ih h' den' kk
  | _ => exact fun hh den kk => kk _ _ hh den
def isDq : D P R → Bool
  | .dq .. => true
  | _ => false
def isCm : D P R → Bool
  | .cm .. => true
  | _ => false
def eop (P : Program) {A : Type} {R : A → Prop} (g : Bool) (lk : Operand → Option SV) (s : S) (o : Op) (d : D P R) (K : SV → S → D P R → Tr) : Tr :=
  match o with
  | .alloc t => alT P s t fun v s => K v s d
  | .box t x => opt (lk x) fun v => bxT s t v fun v s => K v s d
  | .buildSlice t len ps => opt (lkp lk ps.toList) fun vs => bsT P s t len vs d K
  | .store t x y => opt (lk x) fun v => asC v fun c => opt (lk y) fun u => cond g .no (stT P s t c u fun s' => K (one (.vl undef)) s' d)
  | .call ⟨.builtin .append, xs, ts⟩ => match xs.toList, ts.toList with
    | [x, y], [t, t'] => .e0 t' t <| opt (lk x) fun v => asC v fun c => opt (lk y) fun u => asC u fun cy => cond g .no (apT P s t c cy d K)
    | _, _ => .no
  | .call ⟨.value (.func F), xs, _⟩ => nrm d fun d => match isCm d with
    | true => cond g .no (cmT s lk F xs.toList d K)
    | false => clT s lk F xs.toList d K
  | .slice t x (some y) none none => nrm d fun d => match isDq d with
    | true => cond g .no (opt (lk x) fun v => asC v fun c => opt (lk y) fun u => asC u fun cy => dqT P s t c cy d K)
    | false => qop P lk s (.slice t x (some y) none none) d K
  | o => qop P lk s o d K
/-- Does it only add to what is owned? -/
def grows : Op → Bool
  | .alloc _ | .box _ _ | .buildSlice _ _ _ => true
  | .call ⟨.value (.func _), _, _⟩ => true
  | _ => false
theorem eop_ok {w0 : World} {gw : Bool} {s : S} {lk : Operand → Option SV} {o : Op} {dd : D P R} {K : SV → S → D P R → Tr} {n : Nat} {f : Nat → Value} {W : World} {Q : Exit → Act → World → Prop} {KK : Value → World → Prop} {d : Option Tmp} {ty : TypeId} {pos : String} {af : Array Go.Edge} {g : Option (Nat × Bool)}
    (h : (eop P gw lk s o dd K).holds) (hl : ∀ x u, lk x = some u → ev n f x = u.val) (hst : St w0 W s.rs) (hfa : Facts w0 W s.B) (k : ∀ v s' d' W', (K v s' d').holds → s'.E = s.E → (gw = true → (∃ N, s'.O = N ++ s.O) ∧ Below W.heap.size W W') → St w0 W' s'.rs → Facts w0 W' s'.B → KK v.val W') : Stp P n ⟨d, o, ty, pos, af, g⟩ f W Q KK := by
  unfold eop at h
  split at h
  · exact alT_ok h hst hfa fun v s' W' h' e g1 g2 st' fa' => k v s' _ W' h' e (fun _ => ⟨g1, g2⟩) st' fa'
  · exact opt_ok h fun v hv h => bxT_ok (hl _ _ hv) h hst hfa fun v s' W' h' e g1 g2 st' fa' => k v s' _ W' h' e (fun _ => ⟨g1, g2⟩) st' fa'
  · refine opt_ok h fun vs hvs h => ?_
    have := bsT_ok (d := d) (ty := ty) (pos := pos) (af := af) (g := g) (Q := Q) (KK := KK) (lkp_ok hl hvs) h hst hfa fun v s' d' W' h' e g1 g2 st' fa' => k v s' d' W' h' e (fun _ => ⟨g1, g2⟩) st' fa'
    simpa using this
  · refine opt_ok h fun v hv h' => asC_ok h' fun c hc h => opt_ok h fun u hu h => ?_
    subst hc
    cases gw with
    | true => exact h.elim
    | false =>
      simp only [cond_false] at h
      exact stT_ok (hl _ _ hv) (hl _ _ hu) h hst hfa fun s' W' h' e st' fa' => k (one (.vl undef)) s' _ W' h' e (fun hg => by cases hg) st' fa'
  · next xs ts =>
    split at h
    · next x y t t' e1 e2 =>
      have e1 : xs = #[x, y] := by rw [← Array.toArray_toList (xs := xs), e1]
      have e2 : ts = #[t, t'] := by rw [← Array.toArray_toList (xs := ts), e2]
      subst e1 e2
      obtain ⟨rfl, h⟩ := h
      refine opt_ok h fun v hv h' => asC_ok h' fun c hc h => opt_ok h fun u hu h'' => asC_ok h'' fun cy hcy h => ?_
      subst hc hcy
      cases gw with
      | true => exact h.elim
      | false =>
        simp only [cond_false] at h
        exact apT_ok (hl _ _ hv) (hl _ _ hu) h hst hfa fun v s' d' W' h' e st' fa' => k v s' d' W' h' e (fun hg => by cases hg) st' fa'
    · exact h.elim
  · next F xs ts =>
    refine nrm_ok h fun d' h1 => ?_
    split at h1
    · cases gw with
      | true => exact h1.elim
      | false =>
        simp only [cond_false] at h1
        have := cmT_ok (ats := ts) (d := d) (ty := ty) (pos := pos) (af := af) (g := g) (Q := Q) (KK := KK) hl h1 hst hfa fun v s' d' W' h' e st' fa' => k v s' d' W' h' e (fun hg => by cases hg) st' fa'
        simpa using this
    · have := clT_ok (ats := ts) (d := d) (ty := ty) (pos := pos) (af := af) (g := g) (Q := Q) (KK := KK) hl h1 hst hfa fun v s' d' W' h' e g1 g2 st' fa' => k v s' d' W' h' e (fun _ => ⟨g1, g2⟩) st' fa'
      simpa using this
  · next t x y =>
    refine nrm_ok h fun d' h1 => ?_
    split at h1
    · cases gw with
      | true => exact h1.elim
      | false =>
        simp only [cond_false] at h1
        refine opt_ok h1 fun v hv h2 => asC_ok h2 fun c hc h3 => opt_ok h3 fun u hu h4 => asC_ok h4 fun cy hcy h5 => ?_
        subst hc hcy
        exact dqT_ok (hl _ _ hv) (hl _ _ hu) h5 hst hfa fun v s' d' h' e st' fa' => k v s' d' W h' e (fun hg => by cases hg) st' fa'
    · refine qop_ok h1 hst hfa fun v s' d' h' e1 e2 fa' q => q hl hst (Below.refl _ _) fun W'' st' hb => k v s' d' W'' h' e1 (fun _ => ⟨⟨[], by rw [e2]; rfl⟩, hb⟩) (by rw [S.rs, e2]; exact st') (fa'.up hb)
  · next o h1 h2 h3 h4 h5 h6 h7 =>
    refine qop_ok h hst hfa fun v s' d' h' e1 e2 fa' q => q hl hst (Below.refl _ _) fun W'' st' hb => k v s' d' W'' h' e1 (fun _ => ⟨⟨[], by rw [e2]; rfl⟩, hb⟩) (by rw [S.rs, e2]; exact st') (fa'.up hb)
/-! ### A region's list -/
def putS (d : Option Tmp) (v : SV) (s : S) : S :=
  match d with
  | none => s
  | some t => ⟨(t, v) :: s.E, s.O, s.B, s.nx⟩
theorem Den.put {w0 : World} {s : S} {f : Nat → Value} {W : World} (h : Den w0 s f W) (d : Option Tmp) (v : SV) : Den w0 (putS d v s) (putF f d v.val) W := by
  cases d with
  | none => exact h
  | some t => exact ⟨h.fr.put t v, h.st, h.fa⟩
def onB (w r : Bool) : Bool := cond w r (!r)
def grd (n : Nat) (all : List Oper) (s : S) (o : Oper) (d : D P R) (K : Bool → S → D P R → Tr) : Tr :=
  match o.guard with
  | none => K true s d
  | some (j, w) => opt ((all[j]?).bind (·.dst)) fun dd => .e0 (Nat.ble (dd + 1) n) true <| opt (lku s.E dd) fun v => match v with
    | .on (.ce (.bo e)) => bl (.bo e) d fun r d => K (onB w r) ⟨(dd, one (.vl (.bool r))) :: s.E, s.O, s.B, s.nx⟩ d
    | .on (.ce c) => K (match yl c.val with
      | some b => onB w b
      | none => false) s d
    | .on (.ag _) => .no
    | .tu _ => .no
def opsT (P : Program) {A : Type} {R : A → Prop} (n : Nat) (all : List Oper) : List Oper → S → D P R → (S → D P R → Tr) → Tr
  | [], s, d, K => K s d
  | o :: os, s, d, K => prp d s fun s d => grd n all s o d fun on s d => match on with
    | true => eop P false (opd n s) s o.op d fun v s d => opsT P n all os (putS o.dst v s) d K
    | false => opsT P n all os (putS o.dst (one (.vl undef)) s) d K
theorem grd_ok {G : Prop} {w0 : World} {n : Nat} {all : List Oper} {s : S} {o : Oper} {d : D P R} {K : Bool → S → D P R → Tr} {f : Nat → Value} {W : World} (h : (grd n all s o d K).holds) (den : Den w0 s f W)
    (k : ∀ on s' d', (K on s' d').holds → Den w0 s' f W → (o.guard = none ∧ on = true ∨ ∃ j w dd, o.guard = some (j, w) ∧ (all.toArray[j]?).bind (·.dst) = some dd ∧ dd < n ∧ (yl (f dd) == some w) = on) → G) : G := by
  unfold grd at h
  split at h
  · next hg => exact k _ _ _ h den (.inl ⟨hg, rfl⟩)
  · next j w hg =>
    refine opt_ok h fun dd hd h => ?_
    obtain ⟨hn, h⟩ := h
    have hn := Nat.le_of_ble_eq_true hn
    refine opt_ok h fun v hv h => ?_
    have hf := den.fr dd v hv
    have hd' : (all.toArray[j]?).bind (·.dst) = some dd := by simpa using hd
    split at h
    · next e =>
      refine bl_ok h fun r d' hr h => ?_
      have hr : e = r := by simpa [Sc.val] using hr
      subst hr
      refine k _ _ _ h ⟨den.fr.know dd _ hf, den.st, den.fa⟩ (.inr ⟨j, w, dd, hg, hd', hn, ?_⟩)
      rw [hf]
      show (some e == some w) = _
      cases e <;> cases w <;> rfl
    · next c _ =>
      refine k _ _ _ h den (.inr ⟨j, w, dd, hg, hd', hn, ?_⟩)
      rw [hf]
      show (yl c.val == some w) = _
      split
      · next b hb => rw [hb]; cases b <;> cases w <;> rfl
      · next hb => rw [hb]; cases w <;> rfl
    · exact h.elim
    · exact h.elim
theorem opsT_ok {w0 : World} {n : Nat} {all : List Oper} {Q : Exit → Act → World → Prop} {K : S → D P R → Tr} (k : ∀ s' d' f' W', (K s' d').holds → Den w0 s' f' W' → Q .normal (act n f') W') :
    ∀ {l : List Oper} {s : S} {d : D P R} {f : Nat → Value} {W : World}, (opsT P n all l s d K).holds → Den w0 s f W → Wl P all.toArray Q l n f W
  | [], s, d, f, W, h, den => sx_nil (k _ _ _ _ h den)
  | o :: os, s, d, f, W, h, den => by
    refine prp_ok h den fun s1 d1 h1 den1 => grd_ok h1 den1 fun on s2 d2 h2 den2 hg => ?_
    cases on with
    | true =>
      have hs : Stp P n o f W Q (fun v W' => Wl P all.toArray Q os n (putF f o.dst v) W') := by
        refine eop_ok (d := o.dst) (ty := o.type) (pos := o.pos) (af := o.after) (g := o.guard) h2 (opd_ok den2.fr) den2.st den2.fa fun v s' d' W' h' e _ st' fa' => ?_
        exact opsT_ok k h' (Den.put ⟨by rw [e]; exact den2.fr, st', fa'⟩ o.dst v)
      rcases hg with ⟨hg, _⟩ | ⟨j, w, dd, hg, hd, hn, hy⟩
      · exact sx hg hs
      · exact sx_on hg hd hn (by simpa using hy) hs
    | false =>
      rcases hg with ⟨_, hx⟩ | ⟨j, w, dd, hg, hd, hn, hy⟩
      · cases hx
      · exact sx_off hg hd hn hy (opsT_ok k h2 (den2.put o.dst (one (.vl undef))))
end
end Go.Proofs.YtchnllpegfbleaaDoor

/-
  A region that draws its order, read: what only reads may be done whenever; what makes memory, calls or writes has all else ahead of it or behind it. Theory alone.
-/
namespace Go.Proofs.YtchnllpegfbleaaDoor
set_option linter.unusedSimpArgs false
set_option linter.unusedVariables false
set_option maxHeartbeats 1000000
open Go.RowKit
universe u

def isDst (l : List Oper) (j t : Nat) : Bool :=
  match dstOf l j with
  | some d => Nat.beq d t
  | none => false
theorem isDst_ok {l : List Oper} {j t : Nat} (h : isDst l j t = true) : dstOf l j = some t := by
  unfold isDst at h
  split at h
  · next d hd => rw [hd, Nat.eq_of_beq_eq_true h]
  · cases h
/-- An operand, as number i finds it. -/
def lkD (n : Nat) (l : List Oper) (E0 V : List (Nat × SV)) (i : Nat) : Operand → Option SV
  | .tmp t => cond (Nat.ble (t + 1) n) (match (List.range l.length).find? (fun j => dep l i j && isDst l j t) with
    | some j => lku V j
    | none => cond (keepAt l i t) (lku E0 t) none) none
  | .const v => some (one (.vl v))
  | .global _ => none
  | .func g => some (one (.vl (.func (.func g) #[] #[])))
def isX : Op → Bool
  | .alloc _ | .box _ _ | .buildSlice _ _ _ | .store _ _ _ | .makeSlice _ _ _ => true
  | .call ⟨.value (.func _), _, _⟩ => true
  | .call ⟨.builtin .append, _, _⟩ => true
  | .call ⟨.builtin .copy, _, _⟩ => true
  | .call ⟨.builtin .clear, _, _⟩ => true
  | _ => false
def nextOp (l : List Oper) (done : List Nat) (p : Op → Bool) : Option Nat :=
  (List.range l.length).find? fun i => !done.contains i && (match l[i]? with
    | some o => p o.op
    | none => false) && (List.range l.length).all fun j => !dep l i j || done.contains j
/-- An order: what only reads comes as soon as it can. -/
def canon (l : List Oper) : Nat → List Nat → List Nat
  | 0, _ => []
  | k + 1, done => match nextOp l done (fun o => !isX o) with
    | some i => i :: canon l k (i :: done)
    | none => match nextOp l done (fun _ => true) with
      | some i => i :: canon l k (i :: done)
      | none => []
def keys {α : Type u} (V : List (Nat × α)) : List Nat := V.map (·.1)
/-- Those that wait for number j, nearer or farther. -/
def cloF (l : List Oper) (j : Nat) : List Nat := (List.range l.length).foldl (fun acc i => cond (acc.any fun k => dep l i k) (i :: acc) acc) [j]
def chkX (l : List Oper) (is done : List Nat) (i : Nat) (g : Bool) : Bool := is.all (fun q => (cloF l i).contains q) && (g || done.all fun j => (cloF l j).contains i)
section
variable {P : Program} {A : Type} {R : A → Prop}
def grdD (V : List (Nat × SV)) (o : Oper) (d : D P R) (K : Bool → List (Nat × SV) → D P R → Tr) : Tr :=
  match o.guard with
  | none => K true V d
  | some (j, w) => opt (lku V j) fun v => match v with
    | .on (.ce (.bo e)) => bl (.bo e) d fun r d => K (onB w r) ((j, one (.vl (.bool r))) :: V) d
    | .on (.ce c) => K (match yl c.val with
      | some b => onB w b
      | none => false) V d
    | .on (.ag _) => .no
    | .tu _ => .no
def drT (P : Program) {A : Type} {R : A → Prop} (n : Nat) (l : List Oper) (E0 : List (Nat × SV)) : List Nat → List (Nat × SV) → S → D P R → (List (Nat × SV) → S → D P R → Tr) → Tr
  | [], V, s, d, K => K V s d
  | i :: is, V, s, d, K => opt (l[i]?) fun o => .e0 (lku V i).isNone true <| grdD V o d fun on V d => match on with
    | true => nrm d fun d => match isX o.op && chkX l is (keys V) i (grows o.op && !isCm d) with
      | true => eop P (grows o.op && !isCm d) (lkD n l E0 V i) s o.op d fun v s d => drT P n l E0 is ((i, v) :: V) s d K
      | false => qop P (lkD n l E0 V i) s o.op d fun v s d => drT P n l E0 is ((i, v) :: V) s d K
    | false => drT P n l E0 is ((i, one (.vl undef)) :: V) s d K
def finE (l : List Oper) (V : List (Nat × SV)) : List Nat → List (Nat × SV)
  | [] => []
  | j :: js => match dstOf l j, lku V j with
    | some d, some x => (d, x) :: finE l V js
    | _, _ => finE l V js
def drawT (P : Program) {A : Type} {R : A → Prop} (n : Nat) (l : List Oper) (s : S) (d : D P R) (K : S → D P R → Tr) : Tr :=
  prp d s fun s d => .e0 (P.follows .mixedOrders && ordOk n l) true <| .e0 ((List.range l.length).all fun i => (canon l l.length []).contains i) true <|
    drT P n l s.E (canon l l.length []) [] s d fun V s' d => K ⟨finE l V (List.range l.length) ++ s.E, s'.O, s'.B, s'.nx⟩ d

/-! ### It is so -/
def FIa (l : List Oper) (V : List (Nat × SV)) (D : Nat → Bool) (f : Nat → Value) : Prop := ∀ j x d, lku V j = some x → D j = true → dstOf l j = some d → f d = x.val
def FIb (l : List Oper) (f0 : Nat → Value) (D : Nat → Bool) (f : Nat → Value) : Prop := ∀ t, (∀ j, D j = true → dstOf l j ≠ some t) → f t = f0 t
def Closed (l : List Oper) (D : Nat → Bool) : Prop := ∀ j k, D j = true → dep l j k = true → D k = true
theorem lkD_ok {n : Nat} {l : List Oper} {E0 V : List (Nat × SV)} {i : Nat} {D : Nat → Bool} {f0 f : Nat → Value} (hE : Fr E0 f0) (hi : D i = false) (hd : ∀ j, dep l i j = true → D j = true) (hc : Closed l D) (ha : FIa l V D f) (hb : FIb l f0 D f) (x : Operand) (u : SV) (e : lkD n l E0 V i x = some u) : ev n f x = u.val := by
  cases x with
  | tmp t =>
    simp only [lkD] at e
    cases hn : Nat.ble (t + 1) n with
    | false => rw [hn] at e; cases e
    | true =>
      rw [hn] at e
      simp only [ev, hn, cond_true] at e ⊢
      split at e
      · next j hj =>
        have := List.find?_some hj
        simp only [Bool.and_eq_true] at this
        exact ha j u t e (hd j this.1) (isDst_ok this.2)
      · cases hk : keepAt l i t with
        | false => rw [hk] at e; cases e
        | true =>
          rw [hk] at e
          rw [hb t fun j hj hdj => ?_]
          · exact hE t u e
          · unfold keepAt at hk
            rw [List.all_eq_true] at hk
            have hjl : j < l.length := by
              unfold dstOf at hdj
              cases hq : l[j]? with
              | none => rw [hq] at hdj; cases hdj
              | some o => exact (List.getElem?_eq_some_iff.1 hq).1
            have := hk j (List.mem_range.2 hjl)
            rw [hdj] at this
            simp only [beq_self, Bool.not_true, Bool.or_false, Bool.or_eq_true] at this
            rcases this with h | h
            · rw [Nat.eq_of_beq_eq_true h] at hj; rw [hj] at hi; cases hi
            · have := hc j i hj h; rw [hi] at this; cases this
  | const v => simp only [lkD, Option.some.injEq] at e; subst e; rfl
  | global g => cases e
  | func g => simp only [lkD, Option.some.injEq] at e; subst e; rfl
theorem clo_done {l : List Oper} {D : Nat → Bool} (hc : Closed l D) {i q : Nat} (h : (cloF l i).contains q = true) (hq : q ≠ i) (hd : ∀ m, dep l q m = true → D m = true) : D i = true := by
  have key : ∀ (r acc : List Nat), (∀ q ∈ acc, (D q = true → D i = true) ∧ (q = i ∨ ∃ m, dep l q m = true ∧ (D m = true → D i = true))) → ∀ q ∈ r.foldl (fun acc i => cond (acc.any fun k => dep l i k) (i :: acc) acc) acc, (D q = true → D i = true) ∧ (q = i ∨ ∃ m, dep l q m = true ∧ (D m = true → D i = true)) := by
    intro r
    induction r with
    | nil => exact fun acc h => h
    | cons a r ih =>
      intro acc h
      refine ih _ ?_
      show ∀ q ∈ cond (acc.any fun k => dep l a k) (a :: acc) acc, _
      cases ha : acc.any fun k => dep l a k with
      | false => exact h
      | true =>
        show ∀ q ∈ a :: acc, _
        intro q hq
        rcases List.mem_cons.1 hq with rfl | hq
        · obtain ⟨k, hk, hdk⟩ := List.any_eq_true.1 ha
          have := (h k hk).1
          exact ⟨fun hD => this (hc _ _ hD hdk), .inr ⟨k, hdk, this⟩⟩
        · exact h q hq
  have := key (List.range l.length) [i] (fun q hq => by rw [List.mem_singleton] at hq; subst hq; exact ⟨id, .inl rfl⟩) q (by simpa [cloF] using h)
  rcases this.2 with rfl | ⟨m, hm, h2⟩
  · exact absurd rfl hq
  · exact h2 (hd m hm)
def Ext (V V2 : List (Nat × SV)) : Prop := ∀ j x, lku V j = some x → ∃ x', lku V2 j = some x' ∧ x'.val = x.val
theorem Ext.refl (V : List (Nat × SV)) : Ext V V := fun j x h => ⟨x, h, rfl⟩
theorem Ext.trans {A B C : List (Nat × SV)} (h : Ext A B) (k : Ext B C) : Ext A C := fun j x hx => by
  obtain ⟨x', h1, h2⟩ := h j x hx
  obtain ⟨x'', h3, h4⟩ := k j x' h1
  exact ⟨x'', h3, h4.trans h2⟩
theorem Ext.new {V : List (Nat × SV)} {i : Nat} {v : SV} (h : lku V i = none) : Ext V ((i, v) :: V) := fun j x hx => by
  refine ⟨x, ?_, rfl⟩
  unfold lku
  rw [beq_f (fun e => by rw [e, h] at hx; cases hx)]
  exact hx
theorem Ext.know {V : List (Nat × SV)} {i : Nat} {v v' : SV} (h : lku V i = some v) (e : v'.val = v.val) : Ext V ((i, v') :: V) := fun j x hx => by
  by_cases hj : j = i
  · subst hj
    rw [h] at hx; cases hx
    exact ⟨v', by unfold lku; rw [Nat.beq_refl]; rfl, e⟩
  · exact ⟨x, by unfold lku; rw [beq_f hj]; exact hx, rfl⟩
theorem FIa.of_ext {l : List Oper} {V V2 : List (Nat × SV)} {D : Nat → Bool} {f : Nat → Value} (h : FIa l V2 D f) (e : Ext V V2) : FIa l V D f := fun j x d hx hj hd => by
  obtain ⟨x', h1, h2⟩ := e j x hx
  rw [h j x' d h1 hj hd, h2]
/-- Number j may be done, whenever what it waits for is done. -/
def Pnd (P : Program) (n : Nat) (Q : Exit → Act → World → Prop) (w0 : World) (l : List Oper) (f0 : Nat → Value) (V : List (Nat × SV)) (s : S) (W : World) (j : Nat) : Prop :=
  ∃ x o, lku V j = some x ∧ l[j]? = some o ∧ ∀ D f W', D j = false → (∀ k, dep l j k = true → D k = true) → Closed l D → FIa l V D f → FIb l f0 D f → St w0 W' s.rs → Below W.heap.size W W' →
    cond (onR l f o) (∀ KK : Value → World → Prop, (∀ W'', Below W'.heap.size W' W'' → KK x.val W'') → Stp P n o f W' Q KK) (x.val = undef)
theorem Pnd.mono {n : Nat} {Q : Exit → Act → World → Prop} {w0 : World} {l : List Oper} {f0 : Nat → Value} {V V2 : List (Nat × SV)} {s s2 : S} {W W2 : World} {j : Nat} (h : Pnd P n Q w0 l f0 V s W j) (e : Ext V V2) (hs : ∃ N, s2.O = N ++ s.O) (hb : Below W.heap.size W W2) : Pnd P n Q w0 l f0 V2 s2 W2 j := by
  obtain ⟨x, o, h1, h2, h3⟩ := h
  obtain ⟨x', h4, h5⟩ := e j x h1
  refine ⟨x', o, h4, h2, fun D f W' a b c d g st b2 => ?_⟩
  obtain ⟨N, hN⟩ := hs
  have := h3 D f W' a b c (d.of_ext e) g (st.sub (by rw [S.rs, S.rs, hN, List.map_append]; exact List.sublist_append_right _ _)) (hb.trans (b2.mono hb.size))
  rw [h5]
  exact this
/-- Where the reading stands: at an operation that is barred by what is ahead of it, or at the end. -/
def Stg (P : Program) {A : Type} {R : A → Prop} (n : Nat) (l : List Oper) (E0 : List (Nat × SV)) (K : List (Nat × SV) → S → D P R → Tr) (is : List Nat) (V : List (Nat × SV)) (s : S) (d : D P R) : Prop :=
  match is with
  | [] => (K V s d).holds
  | i :: is => ∃ o g, l[i]? = some o ∧ lku V i = none ∧ chkX l is (keys V) i g = true ∧ (eop P g (lkD n l E0 V i) s o.op d fun v s d => drT P n l E0 is ((i, v) :: V) s d K).holds ∧
      ∀ D f, (∀ k, dep l i k = true → D k = true) → FIa l V D f → onR l f o = true
theorem grdD_ok {G : Prop} {n : Nat} {l : List Oper} (ho : OrdOk n l) {V : List (Nat × SV)} {i : Nat} {o : Oper} {d : D P R} {K : Bool → List (Nat × SV) → D P R → Tr} (hi : l[i]? = some o) (h : (grdD V o d K).holds)
    (k : ∀ on V2 d', (K on V2 d').holds → Ext V V2 → (∀ j, j ∈ keys V2 ↔ j ∈ keys V) → (∀ D f, (∀ k, dep l i k = true → D k = true) → FIa l V2 D f → onR l f o = on) → G) : G := by
  unfold grdD at h
  split at h
  · next hg => exact k _ _ _ h (Ext.refl V) (fun _ => Iff.rfl) fun D f _ _ => by unfold onR; rw [hg]
  · next j w hg =>
    obtain ⟨hdj, dd, hdd⟩ := ho.guard i o j w hi hg
    refine opt_ok h fun v hv h => ?_
    split at h
    · next e =>
      refine bl_ok h fun r d' hr h => ?_
      have hr : e = r := by simpa [Sc.val] using hr
      subst hr
      refine k _ _ _ h (Ext.know hv rfl) (fun q => ?_) fun D f hd ha => ?_
      · simp only [keys, List.map_cons, List.mem_cons]
        exact ⟨fun h => h.elim (fun e => by rw [e]; exact List.mem_map.2 ⟨_, lku_mem hv, rfl⟩) id, .inr⟩
      · have := ha j _ dd (by unfold lku; rw [Nat.beq_refl]; rfl) (hd j hdj) hdd
        unfold onR
        rw [hg]
        simp only [hdd]
        rw [this]
        show (some e == some w) = _
        cases e <;> cases w <;> rfl
    · next c _ =>
      refine k _ _ _ h (Ext.refl V) (fun _ => Iff.rfl) fun D f hd ha => ?_
      have := ha j _ dd hv (hd j hdj) hdd
      unfold onR
      rw [hg]
      simp only [hdd]
      rw [this]
      show (yl c.val == some w) = _
      split
      · next b hb => rw [hb]; cases b <;> cases w <;> rfl
      · next hb => rw [hb]; cases w <;> rfl
    · exact h.elim
    · exact h.elim
theorem lku_none {α : Type u} {V : List (Nat × α)} {j : Nat} : lku V j = none ↔ j ∉ keys V := by
  induction V with
  | nil => simp [lku, keys]
  | cons p V ih =>
    obtain ⟨i, v⟩ := p
    unfold lku
    by_cases h : j = i
    · subst h; rw [Nat.beq_refl]; simp [keys]
    · rw [beq_f h]
      simp only [cond_false, keys, List.map_cons, List.mem_cons, not_or]
      exact ih.trans ⟨fun a => ⟨h, a⟩, fun a => a.2⟩
/-- What only reads is read ahead, up to the next that is barred. -/
theorem adv_ok {n : Nat} {l : List Oper} (ho : OrdOk n l) {Q : Exit → Act → World → Prop} {w0 : World} {E0 : List (Nat × SV)} {f0 : Nat → Value} (hE : Fr E0 f0) {K : List (Nat × SV) → S → D P R → Tr} {G : Prop} :
    ∀ {is : List Nat} {V : List (Nat × SV)} {s : S} {d : D P R} {W : World}, (drT P n l E0 is V s d K).holds → St w0 W s.rs → Facts w0 W s.B →
      (∀ is2 V2 s2 d2, Stg P n l E0 K is2 V2 s2 d2 → St w0 W s2.rs → Facts w0 W s2.B → s2.O = s.O → Ext V V2 → (∀ j, j ∈ keys V2 ∨ j ∈ is2 ↔ j ∈ keys V ∨ j ∈ is) → (∀ j ∈ is2, j ∈ is) → (∀ j ∈ keys V2, j ∈ keys V ∨ Pnd P n Q w0 l f0 V2 s2 W j) → G) → G := by
  intro is
  induction is with
  | nil => exact fun h st fa k => k [] _ _ _ h st fa rfl (Ext.refl _) (fun _ => Iff.rfl) (fun _ h => h) (fun j hj => .inl hj)
  | cons i is ih =>
    intro V s d W h st fa k
    refine opt_ok h fun o hi h => ?_
    obtain ⟨hn, h⟩ := h
    have hn : lku V i = none := by simpa using hn
    refine grdD_ok ho hi h fun on V2 d2 h2 e2 hk2 hon => ?_
    have hn2 : lku V2 i = none := lku_none.2 fun hm => lku_none.1 hn ((hk2 i).1 hm)
    have mem3 : ∀ {v : SV} j, j ∈ keys ((i, v) :: V2) ∨ j ∈ is ↔ j ∈ keys V ∨ j ∈ i :: is := fun {v} j => by
      simp only [keys, List.map_cons, List.mem_cons]
      have := hk2 j
      simp only [keys] at this
      rw [this]
      constructor
      · rintro ((h | h) | h)
        · exact .inr (.inl h)
        · exact .inl h
        · exact .inr (.inr h)
      · rintro (h | h | h)
        · exact .inl (.inr h)
        · exact .inl (.inl h)
        · exact .inr h
    -- a step of what only reads, or is not done at all
    have go : ∀ {v : SV} {s3 : S} {d3 : D P R}, (drT P n l E0 is ((i, v) :: V2) s3 d3 K).holds → s3.O = s.O → Facts w0 W s3.B → Pnd P n Q w0 l f0 ((i, v) :: V2) s3 W i → G := fun {v s3 d3} h3 eO fa3 hp => by
      refine ih h3 (by rw [S.rs, eO]; exact st) fa3 fun is4 V4 s4 d4 g1 g2 g3 g4 g5 g6 g7 g8 => k is4 V4 s4 d4 g1 g2 g3 (g4.trans eO) (e2.trans ((Ext.new hn2).trans g5)) (fun j => (g6 j).trans (mem3 j)) (fun j hj => List.mem_cons_of_mem _ (g7 j hj)) fun j hj => ?_
      rcases g8 j hj with h | h
      · simp only [keys, List.map_cons, List.mem_cons] at h
        rcases h with rfl | h
        · exact .inr (hp.mono g5 ⟨[], by rw [g4]; rfl⟩ (Below.refl _ _))
        · exact .inl ((hk2 j).1 h)
      · exact .inr h
    cases on with
    | false =>
      refine go h2 rfl fa ⟨_, o, by unfold lku; rw [Nat.beq_refl]; rfl, hi, fun D f W' a b c d' e' st' hb => ?_⟩
      rw [hon D f b (d'.of_ext (Ext.new hn2))]
      exact rfl
    | true =>
      refine nrm_ok h2 fun d2 h2 => ?_
      cases hx : isX o.op && chkX l is (keys V2) i (grows o.op && !isCm d2) with
      | true =>
        rw [hx] at h2
        rw [Bool.and_eq_true] at hx
        refine k (i :: is) V2 s d2 ⟨o, _, hi, hn2, hx.2, h2, fun D f hd ha => hon D f hd ha⟩ st fa rfl e2 (fun j => ?_) (fun _ h => h) (fun j hj => .inl ((hk2 j).1 hj))
        rw [hk2 j]
      | false =>
        rw [hx] at h2
        refine qop_ok h2 st fa fun v s3 d3 h3 e3 e4 fa3 q => go h3 e4 fa3 ⟨_, o, by unfold lku; rw [Nat.beq_refl]; rfl, hi, fun D f W' a b c d' e' st' hb => ?_⟩
        have ha2 := d'.of_ext (Ext.new hn2)
        rw [hon D f b ha2]
        intro KK kk
        exact q (d := o.dst) (ty := o.type) (pos := o.pos) (af := o.after) (g := o.guard) (lkD_ok hE a b c ha2 e') (by rw [S.rs, ← e4]; exact st') hb (fun W'' _ hb2 => kk W'' hb2)
/-- What holds in the midst of it. -/
def IDr (P : Program) {A : Type} {R : A → Prop} (n : Nat) (Q : Exit → Act → World → Prop) (w0 : World) (l : List Oper) (E0 : List (Nat × SV)) (f0 : Nat → Value) (K : List (Nat × SV) → S → D P R → Tr) (D : Nat → Bool) (f : Nat → Value) (W : World) : Prop :=
  ∃ is V s d, Stg P n l E0 K is V s d ∧ St w0 W s.rs ∧ Facts w0 W s.B ∧ FIa l V D f ∧ FIb l f0 D f ∧ (∀ j, j < l.length → j ∈ keys V ∨ j ∈ is) ∧ (∀ j ∈ is, D j = false) ∧ (∀ j, D j = true → j ∈ keys V) ∧ ∀ j ∈ keys V, D j = false → Pnd P n Q w0 l f0 V s W j
theorem keepDr {n : Nat} {l : List Oper} (ho : OrdOk n l) {Q : Exit → Act → World → Prop} {w0 : World} {E0 : List (Nat × SV)} {f0 : Nat → Value} (hE : Fr E0 f0) {K : List (Nat × SV) → S → D P R → Tr} : KeepI P n Q l (IDr P n Q w0 l E0 f0 K) := by
  refine ⟨fun i o D f W hi hDi hd hc ⟨is, V, s, d, hs, st, fa, ha, hb, hcov, hnd, hkd, hp⟩ => ?_⟩
  have hil : i < l.length := (List.getElem?_eq_some_iff.1 hi).1
  have hc : Closed l D := hc
  have setD_t : ∀ j, setD D i j = true → j = i ∨ D j = true := fun j h => by
    unfold setD at h
    by_cases hj : j = i
    · exact .inl hj
    · rw [beq_f hj] at h; exact .inr h
  have setD_f : ∀ j, j ≠ i → setD D i j = D j := fun j hj => by unfold setD; rw [beq_f hj]; rfl
  -- the frame behind it
  have frame : ∀ {V2 : List (Nat × SV)} {x : SV}, Ext V V2 → (∀ j, D j = true → j ∈ keys V) → lku V2 i = some x → FIa l V2 (setD D i) (putF f o.dst x.val) ∧ FIb l f0 (setD D i) (putF f o.dst x.val) := fun {V2 x} hV2 hk hx => by
    have hdo : dstOf l i = o.dst := by unfold dstOf; rw [hi]; rfl
    constructor
    · intro j u t hu hj ht
      rcases setD_t j hj with rfl | hj
      · rw [hx] at hu
        cases hu
        rw [hdo] at ht
        rw [ht]
        show upd f t x.val t = x.val
        unfold upd; rw [Nat.beq_refl]; rfl
      · have hji : j ≠ i := fun e => by rw [e, hDi] at hj; cases hj
        obtain ⟨u0, h0, e0⟩ : ∃ u0, lku V j = some u0 ∧ u.val = u0.val := by
          cases hq : lku V j with
          | none => exact absurd (hk j hj) (lku_none.1 hq)
          | some u0 =>
            obtain ⟨u1, h1, h2⟩ := hV2 j u0 hq
            rw [hu] at h1; cases h1
            exact ⟨u0, rfl, h2⟩
        have hf := ha j u0 t h0 hj ht
        rw [e0, ← hf]
        cases hod : o.dst with
        | none => rfl
        | some t' =>
          show upd f t' x.val t = f t
          unfold upd
          have hjl : j < l.length := by
            unfold dstOf at ht
            cases hq : l[j]? with
            | none => rw [hq] at ht; cases ht
            | some o => exact (List.getElem?_eq_some_iff.1 hq).1
          rw [beq_f fun e => ho.ne j i t hjl hil hji ht (by rw [hdo, hod, e])]
          rfl
    · intro t ht
      have h1 : f t = f0 t := hb t fun j hj => ht j (by
        by_cases hji : j = i
        · rw [hji, hDi] at hj; cases hj
        · rw [setD_f j hji]; exact hj)
      have h2 : dstOf l i ≠ some t := ht i (by unfold setD; rw [Nat.beq_refl]; rfl)
      rw [hdo] at h2
      rw [← h1]
      cases hod : o.dst with
      | none => rfl
      | some t' =>
        show upd f t' x.val t = f t
        unfold upd
        rw [beq_f fun e => h2 (by rw [hod, e])]
        rfl
  rcases hcov i hil with hik | his
  · -- it has been read
    obtain ⟨x, o', hx, ho', hstep⟩ := hp i hik hDi
    rw [hi] at ho'
    cases ho'
    have hq := hstep D f W hDi hd hc ha hb st (Below.refl _ _)
    have next : ∀ W'', Below W.heap.size W W'' → IDr P n Q w0 l E0 f0 K (setD D i) (putF f o.dst x.val) W'' := fun W'' hb2 => by
      obtain ⟨fa1, fb1⟩ := frame (Ext.refl V) hkd hx
      have st2 : St w0 W'' s.rs := by simpa using st.call (St.of_below hb2)
      refine ⟨is, V, s, d, hs, st2, fa.up hb2, fa1, fb1, hcov, fun j hj => ?_, fun j hj => ?_, fun j hj hDj => ?_⟩
      · rw [setD_f j fun e => ?_]
        · exact hnd j hj
        · subst e
          match is, hs, hj with
          | i0 :: is', ⟨o0, g0, h1, h2, h3, h4, h5⟩, hj =>
            rcases List.mem_cons.1 hj with e | hj
            · subst e; exact lku_none.1 h2 hik
            · unfold chkX at h3
              rw [Bool.and_eq_true, List.all_eq_true] at h3
              by_cases e : j = i0
              · subst e; exact lku_none.1 h2 hik
              · have := clo_done hc (h3.1 j hj) e hd
                rw [hnd i0 (by simp)] at this; cases this
      · rcases setD_t j hj with rfl | hj
        · exact hik
        · exact hkd j hj
      · have hji : j ≠ i := fun e => by rw [e] at hDj; unfold setD at hDj; rw [Nat.beq_refl] at hDj; cases hDj
        rw [setD_f j hji] at hDj
        exact (hp j hj hDj).mono (Ext.refl V) ⟨[], rfl⟩ hb2
    cases hon : onR l f o with
    | true =>
      rw [hon] at hq
      exact hq _ fun W'' hb2 => next W'' hb2
    | false =>
      rw [hon] at hq
      have hq : x.val = undef := hq
      have := next W (Below.refl _ _)
      rw [hq] at this
      exact this
  · -- it is the one that is barred
    match is, hs, his, hcov, hnd with
    | i0 :: is', ⟨o0, g0, h1, h2, h3, h4, h5⟩, his, hcov, hnd =>
      have h3' := h3
      unfold chkX at h3
      rw [Bool.and_eq_true, List.all_eq_true] at h3
      have hii : i = i0 := by
        rcases List.mem_cons.1 his with e | hm
        · exact e
        · apply Classical.byContradiction
          intro e
          have := clo_done hc (h3.1 i hm) e hd
          rw [hnd i0 (by simp)] at this; cases this
      subst hii
      rw [hi] at h1
      cases h1
      rw [h5 D f hd ha]
      refine eop_ok (d := o.dst) (ty := o.type) (pos := o.pos) (af := o.after) (g := o.guard) h4 (lkD_ok hE hDi hd hc ha hb) st fa fun v s1 d1 W1 h6 e6 g6 st1 fa1 => ?_
      refine adv_ok ho hE (Q := Q) h6 st1 fa1 fun is2 V2 s2 d2 k1 k2 k3 k4 k5 k6 k7 k8 => ?_
      obtain ⟨x, hx, ex⟩ := k5 i v (by unfold lku; rw [Nat.beq_refl]; rfl)
      have hext : Ext V V2 := (Ext.new h2).trans k5
      obtain ⟨fa2, fb2⟩ := frame hext hkd hx
      rw [ex] at fa2 fb2
      refine ⟨is2, V2, s2, d2, k1, k2, k3, fa2, fb2, fun j hj => ?_, fun j hj => ?_, fun j hj => ?_, fun j hj hDj => ?_⟩
      · refine (k6 j).2 ?_
        rcases hcov j hj with h | h
        · exact .inl (by simp only [keys, List.map_cons, List.mem_cons]; exact .inr h)
        · rcases List.mem_cons.1 h with e | h
          · exact .inl (by simp only [keys, List.map_cons, List.mem_cons]; exact .inl e)
          · exact .inr h
      · have hj' := k7 j hj
        by_cases e : j = i
        · subst e
          have := (k6 j).1 (.inr hj)
          -- it stands among those that are read
          exfalso
          match is2, k1, hj with
          | i2 :: is3, ⟨o2, g2, q1, q2, q3, q4, q5⟩, hj =>
            have hjk : j ∈ keys V2 := Classical.byContradiction fun h => by
              rw [lku_none.2 h] at hx; cases hx
            rcases List.mem_cons.1 hj with e | hj
            · subst e; exact lku_none.1 q2 hjk
            · unfold chkX at q3
              rw [Bool.and_eq_true, List.all_eq_true] at q3
              by_cases e : j = i2
              · subst e; exact lku_none.1 q2 hjk
              · have hb2 := clo_done hc (q3.1 j hj) e hd
                rw [hnd i2 (List.mem_cons_of_mem _ (k7 i2 (by simp)))] at hb2; cases hb2
        · rw [setD_f j e]
          exact hnd j (List.mem_cons_of_mem _ hj')
      · have hjv : j ∈ keys ((i, v) :: V) := by
          simp only [keys, List.map_cons, List.mem_cons]
          rcases setD_t j hj with e | hj
          · exact .inl e
          · exact .inr (hkd j hj)
        apply Classical.byContradiction
        intro hno
        cases hq : lku ((i, v) :: V) j with
        | none => exact lku_none.1 hq hjv
        | some u =>
          obtain ⟨u', hu', _⟩ := k5 j u hq
          rw [lku_none.2 hno] at hu'; cases hu'
      · rcases k8 j hj with h | h
        · have hji : j ≠ i := fun e => by rw [e] at hDj; unfold setD at hDj; rw [Nat.beq_refl] at hDj; cases hDj
          rw [setD_f j hji] at hDj
          simp only [keys, List.map_cons, List.mem_cons] at h
          rcases h with e | h
          · exact absurd e hji
          · cases hg : g0 with
            | true =>
              obtain ⟨⟨N, hN⟩, hb1⟩ := g6 hg
              exact (hp j h hDj).mono hext ⟨N, by rw [k4, hN]⟩ hb1
            | false =>
              have h7 := h3.2
              rw [hg, Bool.false_or, List.all_eq_true] at h7
              have := clo_done hc (h7 j h) (fun e => hji e.symm) hd
              rw [hDj] at this; cases this
        · exact h
theorem finE_cases {l : List Oper} {V E0 : List (Nat × SV)} {t : Nat} {x : SV} : ∀ {js : List Nat}, (∀ j ∈ js, j ∈ keys V) → lku (finE l V js ++ E0) t = some x → (∃ j, lku V j = some x ∧ dstOf l j = some t) ∨ (lku E0 t = some x ∧ ∀ j ∈ js, dstOf l j ≠ some t)
  | [], _, h => .inr ⟨h, fun j hj => by cases hj⟩
  | a :: js, hc, h => by
    have ih := finE_cases (l := l) (E0 := E0) (t := t) (x := x) (js := js) fun j hj => hc j (List.mem_cons_of_mem _ hj)
    cases hda : dstOf l a with
    | none =>
      have e : finE l V (a :: js) = finE l V js := by simp [finE, hda]
      rw [e] at h
      rcases ih h with h | ⟨h1, h2⟩
      · exact .inl h
      · refine .inr ⟨h1, fun j hj => ?_⟩
        rcases List.mem_cons.1 hj with rfl | hj
        · rw [hda]; exact fun e => by cases e
        · exact h2 j hj
    | some d =>
      cases hv : lku V a with
      | none => exact absurd (hc a (by simp)) (lku_none.1 hv)
      | some v =>
        have e : finE l V (a :: js) = (d, v) :: finE l V js := by simp [finE, hda, hv]
        rw [e, List.cons_append] at h
        unfold lku at h
        by_cases htd : t = d
        · subst htd
          rw [Nat.beq_refl] at h
          simp only [cond_true, Option.some.injEq] at h
          subst h
          exact .inl ⟨a, hv, hda⟩
        · rw [beq_f htd] at h
          rcases ih h with h | ⟨h1, h2⟩
          · exact .inl h
          · refine .inr ⟨h1, fun j hj => ?_⟩
            rcases List.mem_cons.1 hj with rfl | hj
            · rw [hda]; exact fun e => by cases e; exact htd rfl
            · exact h2 j hj
theorem drawT_ok {w0 W : World} {n id : Nat} {l : List Oper} {s : S} {d : D P R} {K : S → D P R → Tr} {f : Nat → Value} {Q : Exit → Act → World → Prop} (h : (drawT P n l s d K).holds) (den : Den w0 s f W) (k : ∀ s' d' f' W', (K s' d').holds → Den w0 s' f' W' → Q .normal (act n f') W') : (Code.region id l.toArray true).wp P Q (act n f) W := by
  refine prp_ok h den fun s1 d1 h1 den1 => ?_
  obtain ⟨h2, h3, h4⟩ := h1
  rw [Bool.and_eq_true] at h2
  rw [List.all_eq_true] at h3
  have ho := OrdOk.of h2.2
  let K' : List (Nat × SV) → S → D P R → Tr := fun V s' d => K ⟨finE l V (List.range l.length) ++ s1.E, s'.O, s'.B, s'.nx⟩ d
  have hb0 : Below W.heap.size W { W with drawn := W.drawn + 1 } := (Below.refl _ _).drew
  refine sx_anyI l.length (IDr P n Q w0 l s1.E f K') h2.1 (by rw [List.take_length]; exact h2.2) (by rw [List.drop_length]; rfl) ?_ (by rw [List.take_length]; exact keepDr ho den1.fr) ?_
  · have st0 : St w0 { W with drawn := W.drawn + 1 } s1.rs := by simpa using den1.st.call (St.of_below hb0)
    refine adv_ok ho den1.fr (Q := Q) (K := K') h4 st0 (den1.fa.up hb0) fun is2 V2 s2 d2 k1 k2 k3 k4 k5 k6 k7 k8 => ?_
    refine ⟨is2, V2, s2, d2, k1, k2, k3, fun j x d _ hD _ => (by cases hD), fun t _ => rfl, fun j hj => (k6 j).2 (.inr (by simpa using h3 j (List.mem_range.2 hj))), fun _ _ => rfl, fun j hD => (by cases hD), fun j hj _ => ?_⟩
    rcases k8 j hj with h | h
    · cases h
    · exact h
  · intro D g W' hD ⟨is, V, s2, d2, hs, st, fa, ha, hb, hcov, hnd, hkd, hp⟩
    rw [List.take_length] at hD
    rw [List.drop_length]
    match is, hs, hcov, hnd with
    | i0 :: is', ⟨o0, g0, q1, _⟩, hcov, hnd =>
      have := hD i0 (List.getElem?_eq_some_iff.1 q1).1
      rw [hnd i0 (by simp)] at this; cases this
    | [], hs, hcov, hnd =>
      have hs : (K' V s2 d2).holds := hs
      refine sx_nil (k _ _ _ _ hs ⟨?_, st, fa⟩)
      have hc2 : ∀ j ∈ List.range l.length, j ∈ keys V := fun j hj => (hcov j (List.mem_range.1 hj)).elim (fun h => h) (fun h => by cases h)
      intro t x hx
      rcases finE_cases hc2 hx with ⟨j, h5, h6⟩ | ⟨h5, h6⟩
      · refine ha j x t h5 (hD j ?_) h6
        unfold dstOf at h6
        cases hq : l[j]? with
        | none => rw [hq] at h6; cases h6
        | some o => exact (List.getElem?_eq_some_iff.1 hq).1
      · rw [hb t fun j hDj hj => h6 j ?_ hj]
        · exact den1.fr t x h5
        · unfold dstOf at hj
          cases hq : l[j]? with
          | none => rw [hq] at hj; cases hj
          | some o => exact List.mem_range.2 (List.getElem?_eq_some_iff.1 hq).1
end
end Go.Proofs.YtchnllpegfbleaaDoor

/-
  Whole bodies; what a function is handed, and what it hands back. Theory alone.
-/
namespace Go.Proofs.YtchnllpegfbleaaDoor
set_option linter.unusedSimpArgs false
set_option linter.unusedVariables false
set_option maxHeartbeats 1000000
open Go.RowKit
universe u

/-! ### States of loops -/
def hdOf (O : List (Nat × Ob)) (B : List (Nat × Bool × Bo)) (j : Nat) : Hd :=
  match lku O j with
  | some (.own _ h _ _) => h
  | some (.row _ _ h _ _) => h
  | _ => match lku B j with
    | some (_, .sl _ h _ _) => h
    | _ => ⟨none, 0, 0⟩
def ptOf (O : List (Nat × Ob)) (B : List (Nat × Bool × Bo)) (j o : Nat) : Sc :=
  match lku O j with
  | some (.bx b pre _ _ _) => .pt j b pre.length o
  | _ => match lku B j with
    | some (_, .rg b k _) => .pt j b k o
    | some (_, .el _ _ _ b k _) => .pt j b k o
    | _ => .vl undef
def tcS (O : List (Nat × Ob)) (B : List (Nat × Bool × Bo)) : Tc → Sc
  | .v x => .vl x
  | .b e => .bo e
  | .p j o => ptOf O B j o
  | .r j => .rf j (hdOf O B j)
def tvS (O : List (Nat × Ob)) (B : List (Nat × Bool × Bo)) : Tv → SV
  | .c x => one (tcS O B x)
  | .a l => .on (.ag (l.map (tcS O B)))
def pick {α : Type u} : List Nat → List (Nat × α) → List (Nat × α)
  | [], _ => []
  | j :: js, O => match lku O j with
    | some o => (j, o) :: pick js O
    | none => pick js O
def toOwn (G : Nat → Hd × List Nat) : List (Nat × To) → List (Nat × Ob)
  | [] => []
  | (j, .own i xs) :: l => (j, .own i (G j).1 xs (G j).2) :: toOwn G l
  | (j, .row i e xs) :: l => (j, .row i e (G j).1 xs (G j).2) :: toOwn G l
  | (_, .bx _) :: l => toOwn G l
def toBx (s : S) (O1 : List (Nat × Ob)) : List (Nat × To) → List (Nat × Ob)
  | [] => []
  | (j, .bx cs) :: l => match lku s.O j with
    | some (.bx b pre _ post t) => (j, .bx b pre (cs.map (tcS O1 s.B)) post t) :: toBx s O1 l
    | _ => toBx s O1 l
  | _ :: l => toBx s O1 l
/-- The state at a loop's head. -/
def ist (s : S) (ks ko kb : List Nat) (TE : List (Nat × Tv)) (TO : List (Nat × To)) (G : Nat → Hd × List Nat) : S :=
  let O1 := toOwn G TO ++ pick ko s.O
  let O2 := toBx s O1 TO ++ O1
  ⟨TE.map (fun p => (p.1, tvS O2 s.B p.2)) ++ pick ks s.E, O2, pick (999999 :: kb) s.B, s.nx⟩
def sgm (sg : List (Nat × Nat)) (j : Nat) : Nat := (lku sg j).getD j
def ghs (O : List (Nat × Ob)) (sg : List (Nat × Nat)) (j : Nat) : Hd × List Nat :=
  match lku O (sgm sg j) with
  | some (.own _ h _ fp) => (h, fp)
  | some (.row _ _ h _ fe) => (h, fe)
  | _ => (⟨none, 0, 0⟩, [])
def fitE (E : List (Nat × SV)) : List (Nat × SV) → Tr → Tr
  | [], k => k
  | (t, x) :: l, k => match lku E t with
    | some y => .e0 y.val x.val (fitE E l k)
    | none => .no
def fitB (B : List (Nat × Bool × Bo)) : List (Nat × Bool × Bo) → Tr → Tr
  | [], k => k
  | (j, l, b) :: r, k => match lku B j with
    | some (l', b') => .e1 b' b (.e0 (l' || !l) true (fitB B r k))
    | none => .no
def fitO (sg : List (Nat × Nat)) : List (Nat × Ob) → List (Nat × Ob) → Tr → Tr
  | _, [], k => k
  | O, (j, ob) :: r, k => match lku O (sgm sg j) with
    | some ob' => .e0 ob'.res ob.res (fitO sg (delO O (sgm sg j)) r k)
    | none => .no
def fit (s T : S) (sg : List (Nat × Nat)) (k : Tr) : Tr := fitE s.E T.E (fitB s.B T.B (fitO sg s.O T.O k))
theorem fitE_ok {E : List (Nat × SV)} {f : Nat → Value} (hf : Fr E f) : ∀ {T : List (Nat × SV)} {k : Tr}, (fitE E T k).holds → Fr T f ∧ k.holds
  | [], k, h => ⟨fun t x hx => (by cases hx), h⟩
  | (t, x) :: l, k, h => by
    unfold fitE at h
    split at h
    · next y hy =>
      obtain ⟨h1, h2⟩ := h
      obtain ⟨h3, h4⟩ := fitE_ok hf h2
      exact ⟨h3.know t x ((hf t y hy).trans h1), h4⟩
    · exact h.elim
theorem fitB_ok {w0 W : World} {B : List (Nat × Bool × Bo)} (hb : Below w0.heap.size w0 W) (fa : Facts w0 W B) : ∀ {T : List (Nat × Bool × Bo)} {k : Tr}, (fitB B T k).holds → Facts w0 W T ∧ k.holds
  | [], k, h => ⟨fun e he => (by cases he), h⟩
  | (j, l, b) :: r, k, h => by
    unfold fitB at h
    split at h
    · next l' b' hj =>
      obtain ⟨rfl, h1, h2⟩ := h
      obtain ⟨h3, h4⟩ := fitB_ok hb fa h2
      refine ⟨fun e he => ?_, h4⟩
      rcases List.mem_cons.1 he with rfl | he
      · have := fa _ (lku_mem hj)
        cases l' with
        | true =>
          cases l with
          | true => exact this
          | false => exact Bo.up hb this
        | false =>
          cases l with
          | true => cases h1
          | false => exact this
      · exact h3 e he
    · exact h.elim
theorem fitO_ok {w0 W : World} {sg : List (Nat × Nat)} : ∀ {T O : List (Nat × Ob)} {k : Tr} {rs : List Res}, (fitO sg O T k).holds → St w0 W (Or O ++ rs) → St w0 W (Or T ++ rs) ∧ k.holds
  | [], O, k, rs, h, st => ⟨st.sub (List.sublist_append_right _ _), h⟩
  | (j, ob) :: r, O, k, rs, h, st => by
    unfold fitO at h
    split at h
    · next ob' hj =>
      obtain ⟨h1, h2⟩ := h
      have st2 : St w0 W (Or (delO O (sgm sg j)) ++ (ob'.res :: rs)) := (st.take hj).perm List.perm_middle
      rw [h1] at st2
      obtain ⟨h3, h4⟩ := fitO_ok h2 st2
      exact ⟨h3.perm (List.perm_middle (a := ob.res) (l₁ := Or r) (l₂ := rs)).symm, h4⟩
    · exact h.elim
theorem fit_ok {w0 W : World} {s T : S} {sg : List (Nat × Nat)} {k : Tr} {f : Nat → Value} (h : (fit s T sg k).holds) (den : Den w0 s f W) : Den w0 T f W ∧ k.holds := by
  obtain ⟨h1, h⟩ := fitE_ok den.fr h
  obtain ⟨h2, h⟩ := fitB_ok den.st.below den.fa h
  have st : St w0 W (Or s.O ++ []) := by simpa [Or, S.rs] using den.st
  obtain ⟨h3, h⟩ := fitO_ok h st
  exact ⟨⟨h1, by simpa [Or, S.rs] using h3, h2⟩, h⟩
section
variable {P : Program} {A : Type} {R : A → Prop}
def lpT (K : Exit → S → D P R → Tr) (c : (Exit → S → D P R → Tr) → S → D P R → Tr) (s : S) (d : D P R) : Tr :=
  prp d s fun s d => match d with
    | .lp (Γ := Γ) J m ks ko kb TE TO g _ sg k =>
      .an (fit s (ist s ks ko kb (TE g) (TO g) (ghs s.O sg)) sg .ok) <|
        .fn fun g : Γ => .fp (J g) fun hJ => .fn fun G : Nat → Hd × List Nat => c (fun e s' d' => match e with
          | .normal => prp d' s' fun s' d' => match d' with
            | .nx (J := J') (m := m') (c := c') _ g' _ _ sg' => .e1 (⟨J', m', c'⟩ : Lsp) ⟨J, m, m g⟩ <| .fp ((⟨J', m', c'⟩ : Lsp) = ⟨J, m, m g⟩) fun he =>
                fit s' (ist s ks ko kb (TE (cast (congrArg Lsp.Γ he) g')) (TO (cast (congrArg Lsp.Γ he) g')) (ghs s'.O sg')) sg' .ok
            | _ => .no
          | e => K e s' d') (ist s ks ko kb (TE g) (TO g) G) (k g hJ ⟨⟩)
    | _ => .no
def knw (c : Operand) (r : Bool) (s : S) : S :=
  match c with
  | .tmp t => ⟨(t, one (.vl (.bool r))) :: s.E, s.O, s.B, s.nx⟩
  | _ => s
def chk (P : Program) {A : Type} {R : A → Prop} (n : Nat) : Code → (Exit → S → D P R → Tr) → S → D P R → Tr
  | .skip, K => K .normal
  | .region _ ops dr, K => fun s d => cond dr (drawT P n ops.toList s d fun s d => K .normal s d) (opsT P n ops.toList ops.toList s d fun s d => K .normal s d)
  | .seq a b, K => chk P n a fun e s d => match e with
    | .normal => chk P n b K s d
    | e => K e s d
  | .cond c a b, K => fun s d => prp d s fun s d => opt (opd n s c) fun v => asC v fun x => bl x d fun r d => match r with
    | true => chk P n a K (knw c true s) d
    | false => chk P n b K (knw c false s) d
  | .block id c, K => chk P n c fun e s d => match e with
    | .exit i => cond (Nat.beq i id) (K .normal s d) (K (.exit i) s d)
    | e => K e s d
  | .loop c, K => lpT K (chk P n c)
  | .exit id, K => K (.exit id)
  | .ret, K => K .ret
  | _, _ => fun _ _ => .no
theorem chk_ok {w0 : World} {n : Nat} : ∀ (c : Code) {K : Exit → S → D P R → Tr} {s : S} {d : D P R} {f : Nat → Value} {W : World} {Q : Exit → Act → World → Prop}, (chk P n c K s d).holds → Den w0 s f W →
    (∀ e s' d' f' W', (K e s' d').holds → Den w0 s' f' W' → Q e (act n f') W') → c.wp P Q (act n f) W := by
  intro c
  induction c with
  | skip => exact fun h den k => wp_skip (k _ _ _ _ _ h den)
  | region id ops dr =>
    intro K s d f W Q h den k
    cases dr with
    | true =>
      have := drawT_ok (id := id) h den (fun s' d' f' W' h den => k .normal s' d' f' W' h den)
      simpa using this
    | false =>
      have := sx_region (id := id) (opsT_ok (fun s' d' f' W' h den => k .normal s' d' f' W' h den) h den)
      simpa using this
  | seq a b iha ihb =>
    intro K s d f W Q h den k
    refine wp_seq (iha h den fun e s' d' f' W' h' den' => ?_)
    cases e with
    | normal => exact ihb h' den' k
    | exit id => exact k _ _ _ _ _ h' den'
    | goto l => exact k _ _ _ _ _ h' den'
    | ret => exact k _ _ _ _ _ h' den'
    | panic ch => exact k _ _ _ _ _ h' den'
    | outgrown => exact k _ _ _ _ _ h' den'
  | cond c a b iha ihb =>
    intro K s d f W Q h den k
    refine prp_ok h den fun s1 d1 h1 den1 => opt_ok h1 fun v hv h2 => asC_ok h2 fun x hx h3 => bl_ok h3 fun r d2 hr h4 => ?_
    subst hx
    have hc := (opd_ok den1.fr c _ hv).trans hr
    have hk : Den w0 (knw c r s1) f W := by
      clear h4 h3 h2 h1 h
      cases c with
      | tmp t =>
        refine ⟨den1.fr.know t _ ?_, den1.st, den1.fa⟩
        have hv' : lku s1.E t = some (one x) := by
          simp only [opd] at hv
          cases hb : Nat.ble (t + 1) n with
          | true => rw [hb] at hv; exact hv
          | false => rw [hb] at hv; cases hv
        exact (den1.fr t _ hv').trans hr
      | const v => exact den1
      | global g => exact den1
      | func g => exact den1
    cases r with
    | true => exact sx_if hc (fun _ => iha h4 hk k) (fun h => by cases h)
    | false => exact sx_if hc (fun h => by cases h) (fun _ => ihb h4 hk k)
  | block id c ih =>
    intro K s d f W Q h den k
    refine wp_block (ih h den fun e s' d' f' W' h' den' => ?_)
    cases e with
    | exit i =>
      show if i = id then Q .normal _ _ else Q (.exit i) _ _
      have h' : (cond (Nat.beq i id) (K .normal s' d') (K (.exit i) s' d')).holds := h'
      by_cases hi : i = id
      · rw [if_pos hi]
        subst hi
        rw [Nat.beq_refl] at h'
        exact k _ _ _ _ _ h' den'
      · rw [if_neg hi]
        rw [beq_f hi] at h'
        exact k _ _ _ _ _ h' den'
    | normal => exact k _ _ _ _ _ h' den'
    | goto l => exact k _ _ _ _ _ h' den'
    | ret => exact k _ _ _ _ _ h' den'
    | panic ch => exact k _ _ _ _ _ h' den'
    | outgrown => exact k _ _ _ _ _ h' den'
  | loop c ih =>
    intro K s0 d0 f0 W0 Q h den k
    refine prp_ok h den fun s d h1 den1 => ?_
    split at h1
    · next Γ J m ks ko kb TE TO g0 hJ0 sg kk =>
      obtain ⟨h2, h3⟩ := h1
      obtain ⟨den2, _⟩ := fit_ok h2 den1
      refine sx_loop (fun mm f W => ∃ (g : Γ) (G : Nat → Hd × List Nat), J g ∧ m g = mm ∧ Den w0 (ist s ks ko kb (TE g) (TO g) G) f W) (m g0) ⟨g0, _, hJ0, rfl, den2⟩ ?_
      rintro mm f W ⟨g, G, hJ, rfl, den3⟩
      refine ih (h3 g hJ G) den3 fun e s' d' f' W' h' den' => ?_
      cases e with
      | normal =>
        refine prp_ok h' den' fun s4 d4 h4 den4 => ?_
        split at h4
        · next Γ' J' m' c' t' g' hJ' hm' sg' =>
          obtain ⟨he, h5⟩ := h4
          have h6 := h5 he
          cases he
          obtain ⟨den5, _⟩ := fit_ok h6 den4
          exact ⟨f', m g', hm', rfl, g', _, hJ', rfl, den5⟩
        · exact h4.elim
      | exit i => exact k _ _ _ _ _ h' den'
      | goto l => exact k _ _ _ _ _ h' den'
      | ret => exact k _ _ _ _ _ h' den'
      | panic ch => exact k _ _ _ _ _ h' den'
      | outgrown => exact k _ _ _ _ _ h' den'
    · exact h1.elim
  | exit id => exact fun h den k => wp_exit (k _ _ _ _ _ h den)
  | ret => exact fun h den k => wp_ret (k _ _ _ _ _ h den)
  | _ => intros; exact (by assumption : Tr.no.holds).elim
end
end Go.Proofs.YtchnllpegfbleaaDoor

/-
  A function's contract, of what is told of its walk. Theory alone.
-/
namespace Go.Proofs.YtchnllpegfbleaaDoor
set_option linter.unusedSimpArgs false
set_option linter.unusedVariables false
set_option maxHeartbeats 1000000
open Go.RowKit
universe u
section
variable {P : Program} {A : Type} {R : A → Prop}
/-! ### What comes in -/
def entT : List Par → Nat → S → (S → Tr) → Tr
  | [], _, s, K => K s
  | .v x :: ps, t, s, K => entT ps (t + 1) ⟨(t, one (sc x)) :: s.E, s.O, s.B, s.nx⟩ K
  | .b e :: ps, t, s, K => entT ps (t + 1) ⟨(t, one (.bo e)) :: s.E, s.O, s.B, s.nx⟩ K
  | .st i x :: ps, t, s, K => leaves true (i.lv x) s fun cs s => entT ps (t + 1) ⟨(t, .on (.ag cs)) :: s.E, s.O, s.B, s.nx⟩ K
  | .sl i xs :: ps, t, s, K => .fn fun g : Hd × List Nat => entT ps (t + 1) ⟨(t, one (.rf s.nx g.1)) :: s.E, s.O, (s.nx, true, .sl i g.1 xs g.2) :: s.B, s.nx + 1⟩ K
theorem cells_lns {w : World} : ∀ {ls : List Lf} {cs : List Value} {fp : List Nat}, Cells w cs ls fp → lns ls
  | [], _, _, _ => trivial
  | .v x :: ls, [], _, h => h.elim
  | .s _ _ _ :: ls, [], _, h => h.elim
  | .v x :: ls, c :: cs, fp, h => cells_lns (ls := ls) h.2
  | .s _ _ ys :: ls, c :: cs, fp, h => by
    obtain ⟨f1, f2, h1, h2, _⟩ := h
    exact ⟨h1.len_le, cells_lns h2⟩
theorem entT_ok2 {G : Prop} {w W : World} {f : Nat → Value} : ∀ {ps : List Par} {us : List Value} {t : Nat} {s : S} {K : S → Tr}, (entT ps t s K).holds → Pars w us ps → (∀ k v, us[k]? = some v → f (t + k) = v) → Den w s f W →
    (∀ s', (K s').holds → Den w s' f W → gin ps → G) → G
  | [], [], t, s, K, h, hp, hu, den, k => k s h den trivial
  | [], _ :: _, t, s, K, h, hp, hu, den, k => hp.elim
  | p :: ps, [], t, s, K, h, hp, hu, den, k => by cases p <;> exact hp.elim
  | p :: ps, u :: us, t, s, K, h, hp, hu, den, k => by
    have h0 : f t = u := hu 0 u rfl
    have hu' : ∀ k v, us[k]? = some v → f (t + 1 + k) = v := fun k v hk => by
      rw [Nat.add_assoc, Nat.add_comm 1 k]; exact hu (k + 1) v (by simpa using hk)
    cases p with
    | v x =>
      obtain ⟨rfl, hp⟩ := hp
      exact entT_ok2 (t := t + 1) (us := us) h hp hu' ⟨den.fr.know t (one (sc u)) (h0.trans (sc_val u).symm), den.st, den.fa⟩ k
    | b e =>
      obtain ⟨rfl, hp⟩ := hp
      exact entT_ok2 (t := t + 1) (us := us) h hp hu' ⟨den.fr.know t (one (.bo e)) h0, den.st, den.fa⟩ k
    | st i x =>
      obtain ⟨⟨cs, fp, rfl, hc⟩, hp⟩ := hp
      obtain ⟨hg, hc⟩ := i.out hc
      refine leaves_ok (l := true) (w0 := w) (W := W) h hc den.fa fun scs s1 h1 e1 e2 e3 fa' => ?_
      refine entT_ok2 (t := t + 1) (us := us) h1 hp hu' ⟨?_, by rw [S.rs, e3]; exact den.st, fa'⟩ fun s' h' den' hg' => k s' h' den' ⟨⟨hg, cells_lns hc⟩, hg'⟩
      refine Fr.know (by rw [e2]; exact den.fr) t _ (h0.trans ?_)
      show Value.agg cs.toArray = .agg (scs.map Sc.val).toArray
      rw [e1]
    | sl i xs =>
      obtain ⟨⟨fp, hs⟩, hp⟩ := hp
      obtain ⟨hd, rfl, hn⟩ := hs.hd
      refine entT_ok2 (t := t + 1) (us := us) (h (hd, fp)) hp hu' ⟨den.fr.know t _ h0, den.st, fun e he => ?_⟩ fun s' h' den' hg' => k s' h' den' ⟨hs.len_le, hg'⟩
      rcases List.mem_cons.1 he with rfl | he
      · exact hs
      · exact den.fa e he
theorem entT_ok {G : Prop} {w : World} {f : Nat → Value} {ps : List Par} {us : List Value} {t : Nat} {s : S} {K : S → Tr} (h : (entT ps t s K).holds) (hp : Pars w us ps) (hu : ∀ k v, us[k]? = some v → f (t + k) = v) (den : Den w s f w) (k : ∀ s', (K s').holds → Den w s' f w → gin ps → G) : G := entT_ok2 h hp hu den k
/-! ### What goes out -/
def rgd : List Rk → Prop
  | [] => True
  | .own i x :: ks => i.good x ∧ rgd ks
  | _ :: ks => rgd ks
/-- A result's value, as it stands. -/
def resT (P : Program) (n : Nat) (s : S) (r : ResultVar) (K : TV → Tr) : Tr :=
  match r with
  | .tmp t => opt (opd n s (.tmp t)) fun v => match v with
    | .on v => K v
    | _ => .no
  | .cell a t => opt (opd n s (.tmp a)) fun v => asC v fun c => ldT P s t c fun v => match v with
    | .on v => K v
    | _ => .no
def resF (tmps : Array Value) : ResultVar → Sem Value
  | .tmp t => pure (tmps.getD t undef)
  | .cell a t => do loadVar t (← asAddr (tmps.getD a undef))
theorem ldT_run {G : Prop} {w0 W : World} {s : S} {t : TypeId} {c : Sc} {K : SV → Tr} (h : (ldT P s t c K).holds) (st : St w0 W s.rs) (fa : Facts w0 W s.B) (k : ∀ v a, c.val = .pointer (some a) → (loadVar t a).run P W = .ok v.val W → (K v).holds → G) : G := by
  unfold ldT at h
  split at h
  · next j b0 k0 o =>
    refine opt_ok h fun r hr h => ?_
    obtain ⟨b, kk, cs⟩ := r
    obtain ⟨h1, h2, h⟩ := h
    simp only at h1 h2
    subst h1 h2
    have hrg := rgOf_ok hr st fa
    refine opt_ok h fun z hz h => ?_
    cases z with
    | none =>
      refine opt_ok h fun v hvv h => k _ _ rfl ?_ h
      have := ldK_load (P := P) (cs := [v.val]) (o := k0 + o) (b := b0) (W := W) hz (by
        intro q u hj
        cases q with
        | zero =>
          simp at hj; subst hj
          exact hrg o _ (by rw [List.getElem?_map]; simp only at hvv; rw [hvv]; rfl)
        | succ j => simp at hj) rfl
      simp [Instr.loadAt, Instr.sureAddr, Sem.run_bind] at this
      exact this
    | some z =>
      obtain ⟨h1, h⟩ := h
      simp only at h1
      refine k _ _ rfl ?_ h
      have h5 := range_part (i := o) (z := z) hrg
      have := ldK_load (P := P) (cs := ((cs.drop o).take z).map Sc.val) (o := k0 + o) (b := b0) (W := W) hz (by simpa [List.map_take, List.map_drop] using h5) (by simpa using h1)
      simp only [Instr.loadAt, Instr.sureAddr, Sem.run_bind, Sem.run_pure, Result.andThen_ok] at this
      exact this
  · exact h.elim
theorem resT_ok {G : Prop} {w0 W : World} {n : Nat} {s : S} {r : ResultVar} {K : TV → Tr} {f : Nat → Value} (h : (resT P n s r K).holds) (den : Den w0 s f W) (k : ∀ v, (resF (act n f).tmps r).run P W = .ok v.val W → (K v).holds → G) : G := by
  have hg : ∀ t v, opd n s (.tmp t) = some v → (act n f).tmps.getD t undef = v.val := fun t v hv => by
    rw [act_get]; exact opd_ok den.fr (.tmp t) v hv
  cases r with
  | tmp t =>
    refine opt_ok h fun v hv h => ?_
    split at h
    · next v =>
      refine k v ?_ h
      simp only [resF, hg t _ hv]
      rfl
    · exact h.elim
  | cell a t =>
    refine opt_ok h fun v hv h' => asC_ok h' fun c hc h => ?_
    subst hc
    refine ldT_run h den.st den.fa fun v ad e hl h => ?_
    split at h
    · next v =>
      refine k v ?_ h
      simp only [resF, hg a _ hv]
      have : (SV.on (TV.ce c)).val = .pointer (some ad) := e
      rw [this]
      simp [asAddr, Sem.run_bind]
      exact hl
    · exact h.elim
def resA (P : Program) (n : Nat) (s : S) : List ResultVar → (List TV → Tr) → Tr
  | [], K => K []
  | r :: rs, K => resT P n s r fun v => resA P n s rs fun vs => K (v :: vs)
theorem resA_ok {G : Prop} {w0 W : World} {n : Nat} {s : S} {f : Nat → Value} (den : Den w0 s f W) : ∀ {rs : List ResultVar} {K : List TV → Tr}, (resA P n s rs K).holds → (∀ vs, (rs.mapM (resF (act n f).tmps)).run P W = .ok (vs.map TV.val) W → (K vs).holds → G) → G
  | [], K, h, k => k [] rfl h
  | r :: rs, K, h, k => resT_ok h den fun v hv h => resA_ok den (K := fun vs => K (v :: vs)) h fun vs hvs h => k (v :: vs) (by
      simp [List.mapM_cons, Sem.run_bind, hv, hvs]) h
theorem results_run {fn : Func} {tmps : Array Value} {vs : List Value} {W : World} (h : (fn.results.toList.mapM (resF tmps)).run P W = .ok vs W) : (results fn tmps).run P W = .ok (rval vs) W := by
  have e : results fn tmps = (do let vs ← fn.results.mapM (resF tmps); pure (if h : vs.size = 1 then vs[0] else .tuple vs)) := by
    unfold results
    congr 1
  rw [e, Array.mapM_eq_mapM_toList, Sem.run_bind]
  have h2 : (List.toArray <$> fn.results.toList.mapM (resF tmps)).run P W = .ok vs.toArray W := by
    rw [map_eq_pure_bind, Sem.run_bind, h]; rfl
  rw [h2]
  show Result.ok _ W = _
  congr 1
  match vs with
  | [] => rfl
  | [v] => rfl
  | _ :: _ :: _ => rfl
/-- Results go out. -/
def rkT : List TV → List Rk → List (Nat × Ob) → (List (Nat × Ob) → Tr) → Tr
  | [], [], O, K => K O
  | .ce c :: ts, .v x :: ks, O, K => .e0 c.val x (rkT ts ks O K)
  | .ag cs :: ts, .own i x :: ks, O, K => takeC O cs (i.lv x) fun O' => rkT ts ks O' K
  | .ce c :: ts, .sl i xs :: ks, O, K => takeC O [c] [.s _ i xs] fun O' => rkT ts ks O' K
  | _, _, _, _ => .no
theorem rkT_ok {w0 W : World} : ∀ {ts : List TV} {ks : List Rk} {O : List (Nat × Ob)} {K : List (Nat × Ob) → Tr} {rs : List Res}, (rkT ts ks O K).holds → rgd ks → St w0 W (Or O ++ rs) → ∃ r O', (K O').holds ∧ Rks (ts.map TV.val) ks r ∧ St w0 W (Or O' ++ (r ++ rs)) := by
  intro ts
  induction ts with
  | nil =>
    intro ks O K rs h hg st
    cases ks with
    | nil => exact ⟨[], O, h, rfl, st⟩
    | cons => exact h.elim
  | cons t ts ih =>
    intro ks O K rs h hg st
    cases ks with
    | nil => cases t <;> exact h.elim
    | cons kk ks =>
      have mid : ∀ {O' : List (Nat × Ob)} {r : List Res} {x : Res}, St w0 W (Or O' ++ (r ++ (x :: rs))) → St w0 W (Or O' ++ ((x :: r) ++ rs)) := fun {O' r x} h => h.perm ((List.perm_middle (a := x) (l₁ := r) (l₂ := rs)).symm.append_left (Or O'))
      cases t with
      | ce c =>
        cases kk with
        | v x =>
          obtain ⟨h1, h2⟩ := h
          obtain ⟨r, O', hK, h3, h4⟩ := ih h2 hg st
          exact ⟨r, O', hK, ⟨[], r, ⟨h1, rfl⟩, h3, rfl⟩, h4⟩
        | own i x => exact h.elim
        | sl i xs =>
          refine takeC_ok h st fun O' fp h' st' => ?_
          obtain ⟨f1, f2, st2⟩ := St.s_pc st'
          have st3 := st2.d0
          obtain ⟨r, O2, hK, h3, h4⟩ := ih h' hg (rs := Res.own c.val xs f1 :: rs) (st3.perm List.perm_middle)
          exact ⟨Res.own c.val xs f1 :: r, O2, hK, ⟨[_], r, ⟨f1, rfl⟩, h3, rfl⟩, mid h4⟩
      | ag cs =>
        cases kk with
        | v x => exact h.elim
        | sl i xs => exact h.elim
        | own i x =>
          refine takeC_ok h st fun O' fp h' st' => ?_
          have st2 := St.pc_cs i st' hg.1
          obtain ⟨r, O2, hK, h3, h4⟩ := ih h' hg.2 (rs := @Res.cs _ i.toShape (cs.map Sc.val) x fp :: rs) (st2.perm List.perm_middle)
          exact ⟨_ :: r, O2, hK, ⟨[_], r, ⟨_, fp, rfl, rfl⟩, h3, rfl⟩, mid h4⟩
def retT (P : Program) {A : Type} {R : A → Prop} (rk : A → List Rk) (n : Nat) (rs : List ResultVar) (s : S) (d : D P R) : Tr :=
  prp d s fun s d => match d with
    | .rt a _ => resA P n s rs fun ts => rkT ts (rk a) s.O fun _ => .ok
    | _ => .no
def grB : Option Gr → List (Nat × Bool × Bo)
  | none => []
  | some g => [(999999, true, .gr g)]
theorem grB_ok {G : Option Gr} {w : World} (h : Gin G w) : Facts w w (grB G) := by
  cases G with
  | none => intro e he; cases he
  | some g =>
    intro e he
    simp only [grB, List.mem_singleton] at he
    subst he
    exact h
def vcT (P : Program) (fn : Func) (G : Option Gr) (ps : List Par) {A : Type} {R : A → Prop} (rk : A → List Rk) (d : gin ps → D P (fun a => R a ∧ rgd (rk a))) : Tr :=
  .e0 (Nat.ble ps.length fn.ntmps) true <| match fn.body with
    | some c => entT ps 0 ⟨[], [], grB G, 0⟩ fun s => .fp (gin ps) fun hg => chk P fn.ntmps c (fun e s d => match e with
      | .ret => retT P rk fn.ntmps fn.results.toList s d
      | .normal => retT P rk fn.ntmps fn.results.toList s d
      | _ => .no) s (d hg)
    | none => .no
theorem Pars.len {w : World} : ∀ {us : List Value} {ps : List Par}, Pars w us ps → us.length = ps.length
  | [], [], _ => rfl
  | [], p :: _, h => by cases p <;> exact h.elim
  | _ :: _, [], h => h.elim
  | u :: us, p :: ps, h => by
    cases p <;> exact congrArg (· + 1) (Pars.len h.2)
theorem vcg {F : FuncId} {fn : Func} {ps : List Par} {rk : A → List Rk} (G : Option Gr) (hf : P.funcs[F]? = some fn) (d : gin ps → D P (fun a => R a ∧ rgd (rk a))) (h : (vcT P fn G ps rk d).side true = (vcT P fn G ps rk d).side false) : Cg P F G ps R rk := by
  have h := Tr.of_side h
  obtain ⟨h1, h⟩ := h
  refine ⟨fun w us hG hp => ?_⟩
  split at h
  · next c hb =>
    have hl : us.length ≤ fn.ntmps := by rw [hp.len]; exact Nat.le_of_ble_eq_true h1
    refine enter us hf hb rfl hl ?_
    refine entT_ok (t := 0) h hp (f := fun t => us.getD t undef) (fun k v hk => by
      show us.getD (0 + k) undef = v
      rw [Nat.zero_add, List.getD_eq_getElem?_getD, hk]; rfl) ⟨fun t x hx => (by cases hx), St.start w, grB_ok hG⟩ fun s' h' den' hg => ?_
    have hret : ∀ {s : S} {d : D P (fun a => R a ∧ rgd (rk a))} {f : Nat → Value} {W : World}, (retT P rk fn.ntmps fn.results.toList s d).holds → Den w s f W → ∃ v, (results fn (act fn.ntmps f).tmps).run P W = .ok v W ∧ ∃ a vs rs, R a ∧ Ending.returned v = .returned (rval vs) ∧ Rks vs (rk a) rs ∧ St w W rs := by
      intro s d f W h den
      refine prp_ok h den fun s1 d1 h1 den1 => ?_
      split at h1
      · next a ha =>
        refine resA_ok den1 h1 fun ts hts h2 => ?_
        have st : St w W (Or s1.O ++ []) := by simpa [Or, S.rs] using den1.st
        obtain ⟨r, O', _, h3, h4⟩ := rkT_ok h2 ha.2 st
        exact ⟨_, results_run hts, a, _, r, ha.1, rfl, h3, h4.sub (by rw [List.append_nil]; exact List.sublist_append_right _ _)⟩
      · exact h1.elim
    refine chk_ok c (h' hg) den' fun e s2 d2 f2 W2 h2 den2 => ?_
    cases e with
    | ret => exact ⟨rfl, hret h2 den2⟩
    | normal => exact ⟨rfl, hret h2 den2⟩
    | exit i => exact h2.elim
    | goto l => exact h2.elim
    | panic ch => exact h2.elim
    | outgrown => exact h2.elim
  · exact h.elim
theorem vc {F : FuncId} {fn : Func} {ps : List Par} {rk : A → List Rk} (hf : P.funcs[F]? = some fn) (d : gin ps → D P (fun a => R a ∧ rgd (rk a))) (h : (vcT P fn none ps rk d).side true = (vcT P fn none ps rk d).side false) : Ct P F ps R rk := vcg none hf d h
/-! ### Functions that are handed a pointer -/
def Res.all (rs : List Res) : Res where
  fp := rs.flatMap Res.fp
  holds := fun W => ∀ r ∈ rs, r.holds W
  loc := fun hs hb h r hr => r.loc hs (fun b hm => hb b (List.mem_flatMap.2 ⟨r, hr, hm⟩)) (h r hr)
  wr := fun h b hb => by
    obtain ⟨r, hr, hm⟩ := List.mem_flatMap.1 hb
    exact r.wr (h r hr) b hm
theorem St.all_in {w W : World} {a rs : List Res} (h : St w W (a ++ rs)) : St w W (a ++ [Res.all rs]) := by
  refine ⟨h.below, by simpa [Res.all] using h.nodup, fun r hr b hb => ?_, fun r hr => ?_⟩
  · rcases List.mem_append.1 hr with hr | hr
    · exact h.fresh r (List.mem_append_left _ hr) b hb
    · simp only [List.mem_singleton] at hr
      subst hr
      obtain ⟨q, hq, hm⟩ := List.mem_flatMap.1 (show b ∈ rs.flatMap Res.fp from hb)
      exact h.fresh q (List.mem_append_right _ hq) b hm
  · rcases List.mem_append.1 hr with hr | hr
    · exact h.holds r (List.mem_append_left _ hr)
    · simp only [List.mem_singleton] at hr
      subst hr
      exact fun q hq => h.holds q (List.mem_append_right _ hq)
theorem St.all_out {w W : World} {a rs : List Res} (h : St w W (a ++ [Res.all rs])) : St w W (a ++ rs) := by
  refine ⟨h.below, by simpa [Res.all] using h.nodup, fun r hr b hb => ?_, fun r hr => ?_⟩
  · rcases List.mem_append.1 hr with hr | hr
    · exact h.fresh r (List.mem_append_left _ hr) b hb
    · exact h.fresh (Res.all rs) (by simp) b (List.mem_flatMap.2 ⟨r, hr, hb⟩)
  · rcases List.mem_append.1 hr with hr | hr
    · exact h.holds r (List.mem_append_left _ hr)
    · exact h.holds (Res.all rs) (by simp) r hr
def bigN : Nat := 1000000
def retM (P : Program) {A : Type} {R : A → Prop} {α : Type} (i : Dsh α) (y : A → α) (rk : A → List Rk) (n : Nat) (rs : List ResultVar) (b : Nat) (t : TypeId) (pre post : List Value) (r : Res) (s : S) (d : D P R) : Tr :=
  prp d s fun s d => match d with
    | .rt a _ => match lku s.O 0 with
      | some (.bx b' pre' cs post' t') => .e0 b' b <| .e0 pre' pre <| .e0 post' post <| .e0 t' t <| takeC (delO s.O 0) cs (i.lv (y a)) fun O' =>
          resA P n s rs fun ts => rkT ts (rk a) O' fun O2 => match lku O2 bigN with
            | some (.raw r') => .e0 r' r .ok
            | _ => .no
      | _ => .no
    | _ => .no
def vcmT (P : Program) (fn : Func) (ps : List Par) {α : Type} (i : Dsh α) (x : α) {A : Type} {R : A → Prop} (y : A → α) (rk : A → List Rk) (d : gin ps → lns (i.lv x) → D P (fun a => R a ∧ rgd (rk a))) : Tr :=
  .e0 (Nat.ble (ps.length + 1) fn.ntmps) true <| match fn.body with
    | some c => .fn fun G : (Nat × TypeId) × (List Value × List Value × Res) => giveC (i.lv x) ⟨[], [(bigN, .raw G.2.2.2)], [], 1⟩ fun scs s =>
        entT ps 1 ⟨[(0, one (.pt 0 G.1.1 G.2.1.length 0))], (0, .bx G.1.1 G.2.1 scs G.2.2.1 G.1.2) :: s.O, s.B, s.nx⟩ fun s => .fp (gin ps) fun hg => .fp (lns (i.lv x)) fun hn => chk P fn.ntmps c (fun e s d => match e with
          | .ret => retM P i y rk fn.ntmps fn.results.toList G.1.1 G.1.2 G.2.1 G.2.2.1 G.2.2.2 s d
          | .normal => retM P i y rk fn.ntmps fn.results.toList G.1.1 G.1.2 G.2.1 G.2.2.1 G.2.2.2 s d
          | _ => .no) s (d hg hn)
    | none => .no
theorem vcm {F : FuncId} {fn : Func} {ps : List Par} {α : Type} {i : Dsh α} {x : α} {y : A → α} {rk : A → List Rk} (hf : P.funcs[F]? = some fn) (d : gin ps → lns (i.lv x) → D P (fun a => R a ∧ rgd (rk a))) (h : (vcmT P fn ps i x y rk d).side true = (vcmT P fn ps i x y rk d).side false) : Cm P F ps i x R y rk := by
  have h := Tr.of_side h
  obtain ⟨h1, h⟩ := h
  refine ⟨fun w W0 b pre post t cs fp us rs st hp => ?_⟩
  split at h
  · next c hb =>
    have hl : us.length + 1 ≤ fn.ntmps := by rw [hp.len]; exact Nat.le_of_ble_eq_true h1
    refine enter (Value.pointer (some ⟨b, pre.length, none⟩) :: us) hf hb rfl hl ?_
    have st1 : St w W0 (Res.pc cs (i.lv x) fp :: ([Res.bx b (pre ++ cs ++ post) t] ++ [Res.all rs])) := by
      have := St.all_in (a := [Res.bx b (pre ++ cs ++ post) t, Res.pc cs (i.lv x) fp]) st
      exact this.swap
    refine giveC_ok (s := ⟨[], [(bigN, .raw (Res.all rs))], [], 1⟩) (rs := [Res.bx b (pre ++ cs ++ post) t]) (h ((b, t), (pre, post, Res.all rs))) st1 fun scs s1 h2 e1 e2 e3 _ st2 hn => ?_
    have st3 : St w W0 (S.rs ⟨[(0, one (.pt 0 b pre.length 0))], (0, .bx b pre scs post t) :: s1.O, s1.B, s1.nx⟩) := by
      have : St w W0 (Res.bx b (pre ++ cs ++ post) t :: s1.rs) := st2
      rw [← e1] at this
      exact this
    have hret : ∀ {s : S} {d : D P (fun a => R a ∧ rgd (rk a))} {f : Nat → Value} {W : World}, (retM P i y rk fn.ntmps fn.results.toList b t pre post (Res.all rs) s d).holds → Den w s f W → ∃ v, (results fn (act fn.ntmps f).tmps).run P W = .ok v W ∧ ∃ a vs cs' fp' rr, R a ∧ Ending.returned v = .returned (rval vs) ∧ Rks vs (rk a) rr ∧ St w W (Res.bx b (pre ++ cs' ++ post) t :: Res.pc cs' (i.lv (y a)) fp' :: (rr ++ rs)) := by
      intro s d f W h den
      refine prp_ok h den fun s1 d1 h1 den1 => ?_
      split at h1
      · next a ha =>
        split at h1
        · next b' pre' cs' post' t' hj =>
          obtain ⟨rfl, rfl, rfl, rfl, g2⟩ := h1
          have st : St w W (Or s1.O ++ []) := by simpa [Or, S.rs] using den1.st
          have g1 : St w W (Or (delO s1.O 0) ++ [Res.bx b' (pre' ++ cs'.map Sc.val ++ post') t']) := by
            have := st.take hj
            rw [List.append_nil] at this
            exact this.perm (List.perm_append_comm (l₁ := Or (delO s1.O 0)) (l₂ := [_]))
          refine takeC_ok g2 g1 fun O' fp' h3 st2 => ?_
          refine resA_ok den1 h3 fun ts hts h4 => ?_
          have st3 : St w W (Or O' ++ [Res.pc (cs'.map Sc.val) (i.lv (y a)) fp', Res.bx b' (pre' ++ cs'.map Sc.val ++ post') t']) := st2.perm (List.perm_middle (a := Res.pc (cs'.map Sc.val) (i.lv (y a)) fp') (l₁ := Or O') (l₂ := [_]))
          obtain ⟨rr, O2, hK, h5, st4⟩ := rkT_ok h4 ha.2 st3
          split at hK
          · next r' hr =>
            obtain ⟨rfl, _⟩ := hK
            have st5 := st4.take hr
            have st6 : St w W ((Res.bx b' (pre' ++ cs'.map Sc.val ++ post') t' :: Res.pc (cs'.map Sc.val) (i.lv (y a)) fp' :: rr) ++ [Res.all rs]) := by
              have st7 : St w W (Res.all rs :: (rr ++ [Res.pc (cs'.map Sc.val) (i.lv (y a)) fp', Res.bx b' (pre' ++ cs'.map Sc.val ++ post') t'])) := st5.sub (List.Sublist.cons_cons _ (List.sublist_append_right _ _))
              refine st7.perm ?_
              refine (List.perm_append_comm (l₂ := [Res.all rs])).trans ?_
              refine List.Perm.cons _ ?_
              refine (List.Perm.swap _ _ _).trans ?_
              exact List.perm_append_comm (l₁ := [Res.pc (cs'.map Sc.val) (i.lv (y a)) fp', Res.bx b' (pre' ++ cs'.map Sc.val ++ post') t']) (l₂ := rr)
            have st8 := St.all_out st6
            exact ⟨_, results_run hts, a, _, cs'.map Sc.val, fp', rr, ha.1, rfl, h5, st8⟩
          · exact hK.elim
        · exact h1.elim
      · exact h1.elim
    refine entT_ok2 (t := 1) h2 hp (f := fun t => (Value.pointer (some ⟨b, pre.length, none⟩) :: us).getD t undef) (fun k v hk => by
      show (Value.pointer (some ⟨b, pre.length, none⟩) :: us).getD (1 + k) undef = v
      rw [Nat.add_comm, List.getD_eq_getElem?_getD, List.getElem?_cons_succ, hk]; rfl) (W := W0) ⟨?_, st3, by rw [e3]; intro e he; cases he⟩ fun s' h' den' hg => ?_
    · refine Fr.know (E := []) (fun t x hx => by cases hx) 0 _ rfl
    · refine chk_ok c (h' hg hn) den' fun e s2 d2 f2 W2 h2 den2 => ?_
      cases e with
      | ret => exact ⟨rfl, hret h2 den2⟩
      | normal => exact ⟨rfl, hret h2 den2⟩
      | exit i => exact h2.elim
      | goto l => exact h2.elim
      | panic ch => exact h2.elim
      | outgrown => exact h2.elim
  · exact h.elim
end
end Go.Proofs.YtchnllpegfbleaaDoor

/-
  How data stand, cell by cell. (Printed by a program of this project's.)
-/
namespace Go.Proofs.YtchnllpegfbleaaDoor
set_option linter.unusedSimpArgs false
set_option linter.unusedVariables false
set_option maxRecDepth 100000
open Go.RowKit

abbrev lS {β : Type} [i : Shape β] (ys : List β) : Lf := .s β i ys
theorem cells_v {w : World} {cs : List Value} {u : Value} {ls : List Lf} {fp : List Nat} (h : Cells w cs (.v u :: ls) fp) : ∃ r, cs = u :: r ∧ Cells w r ls fp := by
  cases cs with
  | nil => exact h.elim
  | cons c r => exact ⟨r, by rw [h.1], h.2⟩
theorem cells_s {w : World} {cs : List Value} {β : Type} {i : Shape β} {ys : List β} {ls : List Lf} {fp : List Nat} (h : Cells w cs (.s β i ys :: ls) fp) : ∃ c r f1 f2, cs = c :: r ∧ Sl w c ys f1 ∧ Cells w r ls f2 ∧ fp = f1 ++ f2 := by
  cases cs with
  | nil => exact h.elim
  | cons c r => obtain ⟨f1, f2, h1, h2, h3⟩ := h; exact ⟨c, r, f1, f2, rfl, h1, h2, h3⟩
theorem cells_n {w : World} {cs : List Value} {fp : List Nat} (h : Cells w cs [] fp) : cs = [] ∧ fp = [] := by
  cases cs with
  | nil => exact ⟨rfl, h⟩
  | cons => exact h.elim
instance : Dsh Int where
  lv := fun n => [.v (I n)]
  good := I64
  out := fun ⟨h1, h2, h3⟩ => by subst h1; subst h2; exact ⟨h3, rfl, rfl⟩
  inn := fun hg h => by obtain ⟨r, rfl, h2⟩ := cells_v h; obtain ⟨rfl, rfl⟩ := cells_n h2; exact ⟨rfl, rfl, hg⟩
instance : Dsh Bool where
  lv := fun b => [.v (.bool b)]
  good := fun _ => True
  out := fun ⟨h1, h2, h3⟩ => by subst h1; subst h2; exact ⟨h3, rfl, rfl⟩
  inn := fun hg h => by obtain ⟨r, rfl, h2⟩ := cells_v h; obtain ⟨rfl, rfl⟩ := cells_n h2; exact ⟨rfl, rfl, hg⟩
instance : Dsh ByteArray where
  lv := fun b => [.v (.string b)]
  good := fun s => s.size ≤ maxLen
  out := fun ⟨h1, h2, h3⟩ => by subst h1; subst h2; exact ⟨h3, rfl, rfl⟩
  inn := fun hg h => by obtain ⟨r, rfl, h2⟩ := cells_v h; obtain ⟨rfl, rfl⟩ := cells_n h2; exact ⟨rfl, rfl, hg⟩
instance {α : Type} [Shape α] : Dsh (List α) where
  lv := fun xs => [.s α _ xs]
  good := fun _ => True
  out := fun ⟨v, h1, h2⟩ => by subst h1; exact ⟨trivial, _, [], h2, rfl, by simp⟩
  inn := fun hg h => by obtain ⟨c, r, f1, f2, rfl, h1, h2, rfl⟩ := cells_s h; obtain ⟨rfl, rfl⟩ := cells_n h2; exact ⟨c, rfl, by simpa using h1⟩
instance : Dsh Edge where
  lv := fun x => [.v (I x.from_), .v (I x.to_)]
  good := Edge.ok
  out := fun {w cs x fp} h => by obtain ⟨h1, h2, h3⟩ := h; subst h1; subst h2; exact ⟨h3, rfl, rfl, rfl⟩
  inn := fun hg h => by obtain ⟨r0, e0, z0⟩ := cells_v h; obtain ⟨r1, e1, z1⟩ := cells_v z0; obtain ⟨e2, p0⟩ := cells_n z1; subst e2 e1 e0; subst p0; exact ⟨rfl, rfl, hg⟩
instance : Dsh Plan where
  lv := fun x => [.v (I x.prio), .v (I x.most), .v (I x.wait), .v (I x.tasks), lS x.edges]
  good := Plan.ok
  out := fun {w cs x fp} h => by
    obtain ⟨v0, f0, hcs, hok, h0, hfp⟩ := h
    refine ⟨hok, ?_⟩
    rw [hcs, hfp]
    have h : Cells w [I x.prio, I x.most, I x.wait, I x.tasks, v0] [.v (I x.prio), .v (I x.most), .v (I x.wait), .v (I x.tasks), lS x.edges] (f0 ++ []) := ⟨rfl, ⟨rfl, ⟨rfl, ⟨rfl, ⟨f0, _, h0, rfl, rfl⟩⟩⟩⟩⟩
    simpa using h
  inn := fun hg h => by
    obtain ⟨r0, e0, z0⟩ := cells_v h
    obtain ⟨r1, e1, z1⟩ := cells_v z0
    obtain ⟨r2, e2, z2⟩ := cells_v z1
    obtain ⟨r3, e3, z3⟩ := cells_v z2
    obtain ⟨c0, r4, f0, g0, e4, h0, z4, p0⟩ := cells_s z3
    obtain ⟨e5, p1⟩ := cells_n z4
    subst e5 e4 e3 e2 e1 e0
    subst p1 p0
    exact ⟨c0, f0, rfl, hg, h0, by simp⟩
instance : Dsh Task where
  lv := fun x => [.v (I x.state), .v (I x.need), .v (I x.try_), .v (I x.until_)]
  good := Task.ok
  out := fun {w cs x fp} h => by obtain ⟨h1, h2, h3⟩ := h; subst h1; subst h2; exact ⟨h3, rfl, rfl, rfl, rfl, rfl⟩
  inn := fun hg h => by obtain ⟨r0, e0, z0⟩ := cells_v h; obtain ⟨r1, e1, z1⟩ := cells_v z0; obtain ⟨r2, e2, z2⟩ := cells_v z1; obtain ⟨r3, e3, z3⟩ := cells_v z2; obtain ⟨e4, p0⟩ := cells_n z3; subst e4 e3 e2 e1 e0; subst p0; exact ⟨rfl, rfl, hg⟩
instance : Dsh Run where
  lv := fun x => [.v (I x.id), .v (I x.plan.prio), .v (I x.plan.most), .v (I x.plan.wait), .v (I x.plan.tasks), lS x.plan.edges, .v (I x.state), lS x.tasks]
  good := Run.ok
  out := fun {w cs x fp} h => by
    obtain ⟨v0, v1, f0, f1, hcs, hok, h0, h1, hfp⟩ := h
    refine ⟨hok, ?_⟩
    rw [hcs, hfp]
    have h : Cells w [I x.id, I x.plan.prio, I x.plan.most, I x.plan.wait, I x.plan.tasks, v0, I x.state, v1] [.v (I x.id), .v (I x.plan.prio), .v (I x.plan.most), .v (I x.plan.wait), .v (I x.plan.tasks), lS x.plan.edges, .v (I x.state), lS x.tasks] (f0 ++ (f1 ++ [])) := ⟨rfl, ⟨rfl, ⟨rfl, ⟨rfl, ⟨rfl, ⟨f0, _, h0, ⟨rfl, ⟨f1, _, h1, rfl, rfl⟩⟩, rfl⟩⟩⟩⟩⟩⟩
    simpa using h
  inn := fun hg h => by
    obtain ⟨r0, e0, z0⟩ := cells_v h
    obtain ⟨r1, e1, z1⟩ := cells_v z0
    obtain ⟨r2, e2, z2⟩ := cells_v z1
    obtain ⟨r3, e3, z3⟩ := cells_v z2
    obtain ⟨r4, e4, z4⟩ := cells_v z3
    obtain ⟨c0, r5, f0, g0, e5, h0, z5, p0⟩ := cells_s z4
    obtain ⟨r6, e6, z6⟩ := cells_v z5
    obtain ⟨c1, r7, f1, g1, e7, h1, z7, p1⟩ := cells_s z6
    obtain ⟨e8, p2⟩ := cells_n z7
    subst e8 e7 e6 e5 e4 e3 e2 e1 e0
    subst p2 p1 p0
    exact ⟨c0, c1, f0, f1, rfl, hg, h0, h1, by simp⟩
instance : Dsh Reply where
  lv := fun x => [.v (I x.code), .v (I x.run), .v (I x.task), .v (I x.try_)]
  good := Reply.ok
  out := fun {w cs x fp} h => by obtain ⟨h1, h2, h3⟩ := h; subst h1; subst h2; exact ⟨h3, rfl, rfl, rfl, rfl, rfl⟩
  inn := fun hg h => by obtain ⟨r0, e0, z0⟩ := cells_v h; obtain ⟨r1, e1, z1⟩ := cells_v z0; obtain ⟨r2, e2, z2⟩ := cells_v z1; obtain ⟨r3, e3, z3⟩ := cells_v z2; obtain ⟨e4, p0⟩ := cells_n z3; subst e4 e3 e2 e1 e0; subst p0; exact ⟨rfl, rfl, hg⟩
instance : Dsh Deed where
  lv := fun x => [.v (I x.kind), .v (I x.run), .v (I x.plan.prio), .v (I x.plan.most), .v (I x.plan.wait), .v (I x.plan.tasks), lS x.plan.edges, .v (I x.task), .v (I x.try_), .v (I x.worker), .v (I x.draw)]
  good := Deed.ok
  out := fun {w cs x fp} h => by
    obtain ⟨v0, f0, hcs, hok, h0, hfp⟩ := h
    refine ⟨hok, ?_⟩
    rw [hcs, hfp]
    have h : Cells w [I x.kind, I x.run, I x.plan.prio, I x.plan.most, I x.plan.wait, I x.plan.tasks, v0, I x.task, I x.try_, I x.worker, I x.draw] [.v (I x.kind), .v (I x.run), .v (I x.plan.prio), .v (I x.plan.most), .v (I x.plan.wait), .v (I x.plan.tasks), lS x.plan.edges, .v (I x.task), .v (I x.try_), .v (I x.worker), .v (I x.draw)] (f0 ++ []) := ⟨rfl, ⟨rfl, ⟨rfl, ⟨rfl, ⟨rfl, ⟨rfl, ⟨f0, _, h0, ⟨rfl, ⟨rfl, ⟨rfl, ⟨rfl, rfl⟩⟩⟩⟩, rfl⟩⟩⟩⟩⟩⟩⟩
    simpa using h
  inn := fun hg h => by
    obtain ⟨r0, e0, z0⟩ := cells_v h
    obtain ⟨r1, e1, z1⟩ := cells_v z0
    obtain ⟨r2, e2, z2⟩ := cells_v z1
    obtain ⟨r3, e3, z3⟩ := cells_v z2
    obtain ⟨r4, e4, z4⟩ := cells_v z3
    obtain ⟨r5, e5, z5⟩ := cells_v z4
    obtain ⟨c0, r6, f0, g0, e6, h0, z6, p0⟩ := cells_s z5
    obtain ⟨r7, e7, z7⟩ := cells_v z6
    obtain ⟨r8, e8, z8⟩ := cells_v z7
    obtain ⟨r9, e9, z9⟩ := cells_v z8
    obtain ⟨r10, e10, z10⟩ := cells_v z9
    obtain ⟨e11, p1⟩ := cells_n z10
    subst e11 e10 e9 e8 e7 e6 e5 e4 e3 e2 e1 e0
    subst p1 p0
    exact ⟨c0, f0, rfl, hg, h0, by simp⟩
end Go.Proofs.YtchnllpegfbleaaDoor

/-
  What is told of a walk, in short. Theory alone.
-/
namespace Go.Proofs.YtchnllpegfbleaaDoor
set_option linter.unusedSimpArgs false
set_option linter.unusedVariables false
open Go.RowKit
universe u
theorem all1 {α : Type} {p : α → Prop} {y : α} (h : p y) : ∀ z ∈ [y], p z := fun z hz => by rw [List.mem_singleton] at hz; rw [hz]; exact h
theorem all2 {α : Type} {p : α → Prop} {x y : α} (h : p x) (h2 : p y) : ∀ z ∈ [x, y], p z := fun z hz => by
  rcases List.mem_cons.1 hz with rfl | hz
  · exact h
  · exact all1 h2 z hz
abbrev vi (e : Int) : Value := I e
namespace Par
abbrev I (e : Int) : Par := .v (vi e)
abbrev T (e : ByteArray) : Par := .v (.string e)
abbrev S {α : Type} [i : Dsh α] (x : α) : Par := .st i x
abbrev L {α : Type} [i : Shape α] (x : List α) : Par := .sl i x
end Par
namespace Rk
abbrev I (e : Int) : Rk := .v (vi e)
abbrev B (e : Bool) : Rk := .v (.bool e)
abbrev T (e : ByteArray) : Rk := .v (.string e)
abbrev S {α : Type} [i : Dsh α] (x : α) : Rk := .own i x
abbrev L {α : Type} [i : Shape α] (x : List α) : Rk := .sl i x
end Rk
abbrev vI (t : Nat) (e : Int) : Nat × Tv := (t, .c (.v (I e)))
abbrev vB (t : Nat) (e : Bool) : Nat × Tv := (t, .c (.b e))
abbrev vT (t : Nat) (e : ByteArray) : Nat × Tv := (t, .c (.v (.string e)))
abbrev vR (t j : Nat) : Nat × Tv := (t, .c (.r j))
abbrev oR {α : Type} [i : Shape α] (j e : Nat) (xs : List α) : Nat × To := (j, .row i e xs)
abbrev oO {α : Type} [i : Shape α] (j : Nat) (xs : List α) : Nat × To := (j, .own i xs)
abbrev oB (j : Nat) (cs : List Tc) : Nat × To := (j, .bx cs)
theorem Cg.one {P : Program} {F : FuncId} {G : Option Gr} {ps : List Par} {A : Type} {rk : A → List Rk} (a0 : A) (h : Cg P F G ps (fun a => a = a0) rk) : Cg P F G ps (fun _ : Unit => True) (fun _ => rk a0) :=
  ⟨fun w us hG hp => (h.run w us hG hp).mono fun e W hh => by
    obtain ⟨a, vs, rs, ha, hh⟩ := hh
    subst ha
    exact ⟨(), vs, rs, trivial, hh⟩⟩
theorem Ct.one {P : Program} {F : FuncId} {ps : List Par} {A : Type} {rk : A → List Rk} (a0 : A) (h : Ct P F ps (fun a => a = a0) rk) : Ct1 P F ps (rk a0) := Cg.one a0 h
theorem Cm.one {P : Program} {F : FuncId} {ps : List Par} {α : Type} {i : Dsh α} {x : α} {A : Type} {y : A → α} {rk : A → List Rk} (a0 : A) (h : Cm P F ps i x (fun a => a = a0) y rk) : Cm P F ps i x (fun _ : Unit => True) (fun _ => y a0) (fun _ => rk a0) :=
  ⟨fun w W0 b pre post t cs fp us rs st hp => (h.run w W0 b pre post t cs fp us rs st hp).mono fun e W hh => by
    obtain ⟨a, vs, cs', fp', rr, ha, hh⟩ := hh
    subst ha
    exact ⟨(), vs, cs', fp', rr, trivial, hh⟩⟩
theorem bnT {e : Bool} (h : (!e) = true) : e = false := by cases e <;> simp_all
theorem bnF {e : Bool} (h : (!e) = false) : e = true := by cases e <;> simp_all
namespace D
variable {P : Program} {A : Type} {R : A → Prop}
abbrev x {α : Type} [i : Dsh α] (xs : List α) (n : Nat) (k : ∀ x, xs[n]? = some x → i.good x → D P R) (h : n < xs.length := by omega) : D P R :=
  .ex (p := fun x => xs[n]? = some x) ⟨xs[n], List.getElem?_eq_getElem h⟩ fun x hx => .ix i xs n x hx n rfl (k x hx)
abbrev xe {α : Type} [i : Dsh α] (xs : List α) (n : Nat) (e : Int) (k : ∀ x, xs[n]? = some x → i.good x → D P R) (h : n < xs.length := by omega) (he : e = n := by omega) : D P R :=
  .ex (p := fun x => xs[n]? = some x) ⟨xs[n], List.getElem?_eq_getElem h⟩ fun x hx => .ix i xs n x hx e he (k x hx)
abbrev y {α : Type} [i : Dsh α] {xs : List α} {n : Nat} {x : α} (hx : xs[n]? = some x) (k : i.good x → D P R) : D P R := .ix i xs n x hx n rfl k
abbrev ye {α : Type} [i : Dsh α] {xs : List α} {n : Nat} {x : α} (hx : xs[n]? = some x) (e : Int) (k : i.good x → D P R) (he : e = n := by omega) : D P R := .ix i xs n x hx e he k
abbrev z (j n : Nat) (k : D P R) : D P R := .iy j n n rfl k
abbrev ze (j n : Nat) (e : Int) (k : D P R) (he : e = n := by omega) : D P R := .iy j n e he k
abbrev p (x y : Int) (k : D P R) (h : I64 (x + y) := by first | (unfold I64; omega) | (simp only [I64] at *; omega)) : D P R := .ad x y h k
abbrev m (x y : Int) (k : D P R) (h : I64 (x - y) := by first | (unfold I64; omega) | (simp only [I64] at *; omega)) : D P R := .su x y h k
abbrev o (x y : Int) (k : D P R) (h : I64 (x * y) := by first | (unfold I64; omega) | (simp only [I64] at *; omega)) : D P R := .mu x y h k
abbrev q (x y : Int) (k : D P R) (h : (0 ≤ x ∧ x ≤ 9223372036854775807) ∧ 0 < y := by omega) : D P R := .qu x y h k
abbrev s (p : Prop) [i : Decidable p] (t : p → D P R) (f : ¬ p → D P R) : D P R := .sp p i t f
abbrev u (p : Prop) [i : Decidable p] (t : ¬ p → D P R) (f : p → D P R) : D P R := .sn p i t f
abbrev v (e : Bool) (t : e = false → D P R) (f : e = true → D P R) : D P R := .sb (!e) (fun h => t (bnT h)) (fun h => f (bnF h))
abbrev kt (p : Prop) [i : Decidable p] (h : p) (k : D P R) : D P R := .kn (decide p) true (decide_eq_true h) k
abbrev kf (p : Prop) [i : Decidable p] (h : ¬ p) (k : D P R) : D P R := .kn (decide p) false (decide_eq_false h) k
abbrev ut (p : Prop) [i : Decidable p] (h : ¬ p) (k : D P R) : D P R := .kn (!decide p) true (by rw [decide_eq_false h]; rfl) k
abbrev uf (p : Prop) [i : Decidable p] (h : p) (k : D P R) : D P R := .kn (!decide p) false (by rw [decide_eq_true h]; rfl) k
abbrev c {ps : List Par} {rk : List Rk} {F : FuncId} {fn : Func} {G : Option Gr} (hf : P.funcs[F]? = some fn) (h : Cg P F G ps (fun _ : Unit => True) (fun _ => rk)) (k : gds rk → D P R) (hg : gps ps := by repeat' (first | exact trivial | assumption | constructor)) : D P R := .cq F hf h hg k
abbrev l {Γ : Type} (J : Γ → Prop) (m : Γ → Nat) (ks ko kb : List Nat) (TE : Γ → List (Nat × Tv)) (TO : Γ → List (Nat × To)) (g : Γ) (k : ∀ g, J g → Tok J m (m g) → D P R) (h : J g := by repeat' (first | exact trivial | assumption | omega | constructor)) : D P R := .lp J m ks ko kb TE TO g h [] k
abbrev n {Γ : Type} {J : Γ → Prop} {m : Γ → Nat} {c : Nat} (t : Tok J m c) (g : Γ) (sg : List (Nat × Nat)) (h1 : J g := by repeat' (first | exact trivial | assumption | omega | constructor)) (h2 : m g < c := by first | omega | (dsimp only; omega)) : D P R := .nx t g h1 h2 sg
abbrev a {α : Type} [i : Dsh α] (xs : List α) (y : α) (bytes : Nat) (k : D P R) (hy : i.good y := by first | exact trivial | assumption | (show I64 _; unfold I64; omega)) (h63 : xs.length + 1 ≤ maxLen := by unfold maxLen; omega) (hby : (xs.length + 1) * bytes ≤ 140737488355328 := by omega) : D P R := .ap i xs [y] (all1 hy) bytes h63 hby k
abbrev g {α : Type} [i : Shape α] (j : Nat) {xs ys : List α} (h : xs = ys) (k : D P R) : D P R := .rw i j xs ys h k
abbrev e (α : Type) [i : Shape α] (k : D P R) : D P R := .em i k
abbrev w (α : Type) [i : Shape α] (e t : Nat) (k : D P R) : D P R := .rn i e t k
abbrev b {α : Type} [i : Dsh α] (j : Nat) (xs : List α) (n : Nat) (k : ∀ x, xs[n]? = some x → i.good x → D P R) (h : n < xs.length := by omega) : D P R :=
  .ex (p := fun x => xs[n]? = some x) ⟨xs[n], List.getElem?_eq_getElem h⟩ fun x hx => .le i j xs n x hx (k x hx)
abbrev d {α : Type} [i : Dsh α] (j : Nat) {xs : List α} {n : Nat} {x : α} (hx : xs[n]? = some x) (k : i.good x → D P R) : D P R := .le i j xs n x hx k
abbrev f {α : Type} [i : Dsh α] (j : Nat) (xs : List α) (y : α) (k : D P R) (h : i.good y := by first | exact trivial | assumption) : D P R := .gi i j xs y h k
abbrev i (n : Nat) (k : D P R) : D P R := .il n n rfl k
abbrev ie (n : Nat) (e : Int) (k : D P R) (he : e = n := by omega) : D P R := .il n e he k
end D
end Go.Proofs.YtchnllpegfbleaaDoor

/-
  Calls of the library and of what is known, for lines that are read. (Printed by a program of this project's.)
-/
namespace Go.Proofs.YtchnllpegfbleaaDoor
set_option linter.unusedSimpArgs false
set_option linter.unusedVariables false
set_option maxRecDepth 100000
open Go.RowKit
open Go.Lib
def laysC172_ren : Go.Shelf.Ren := ⟨fun | 172 => 75 | 244 => 85 | 245 => 86 | 247 => 94 | 279 => 95 | 280 => 96 | 281 => 97 | 282 => 98 | 287 => 104 | 316 => 105 | 171 => 52 | 205 => 106 | 321 => 109 | 322 => 110 | 243 => 68 | 246 => 76 | 283 => 87 | 284 => 88 | 285 => 89 | 286 => 90 | 129 => 100 | 317 => 99 | 318 => 101 | 319 => 102 | 320 => 103 | 337 => 107 | 338 => 108 | n => n, fun | 9 => 9 | 3 => 3 | 75 => 110 | 76 => 111 | 4 => 4 | 5 => 5 | 167 => 130 | 37 => 64 | 0 => 0 | 85 => 131 | 2 => 2 | 168 => 133 | 53 => 122 | 175 => 144 | 46 => 119 | 210 => 148 | 127 => 152 | 145 => 155 | 143 => 153 | 21 => 21 | 171 => 121 | 173 => 125 | 212 => 137 | 51 => 127 | 20 => 20 | 213 => 138 | 232 => 156 | 233 => 157 | 80 => 158 | n => n, fun | 15 => 4 | 16 => 5 | 17 => 1 | 18 => 6 | 19 => 7 | n => n⟩
theorem laysC172 : Go.Proofs.LaysC.n172 Tryd.prog laysC172_ren where
  mixed := by kernel_rfl
  f129 := Tryd.func100.trans (congrArg some (by kernel_rfl))
  f171 := Tryd.func52.trans (congrArg some (by kernel_rfl))
  f172 := Tryd.func75.trans (congrArg some (by kernel_rfl))
  f205 := Tryd.func106.trans (congrArg some (by kernel_rfl))
  f243 := Tryd.func68.trans (congrArg some (by kernel_rfl))
  f244 := Tryd.func85.trans (congrArg some (by kernel_rfl))
  f245 := Tryd.func86.trans (congrArg some (by kernel_rfl))
  f246 := Tryd.func76.trans (congrArg some (by kernel_rfl))
  f247 := Tryd.func94.trans (congrArg some (by kernel_rfl))
  f279 := Tryd.func95.trans (congrArg some (by kernel_rfl))
  f280 := Tryd.func96.trans (congrArg some (by kernel_rfl))
  f281 := Tryd.func97.trans (congrArg some (by kernel_rfl))
  f282 := Tryd.func98.trans (congrArg some (by kernel_rfl))
  f283 := Tryd.func87.trans (congrArg some (by kernel_rfl))
  f284 := Tryd.func88.trans (congrArg some (by kernel_rfl))
  f285 := Tryd.func89.trans (congrArg some (by kernel_rfl))
  f286 := Tryd.func90.trans (congrArg some (by kernel_rfl))
  f287 := Tryd.func104.trans (congrArg some (by kernel_rfl))
  f316 := Tryd.func105.trans (congrArg some (by kernel_rfl))
  f317 := Tryd.func99.trans (congrArg some (by kernel_rfl))
  f318 := Tryd.func101.trans (congrArg some (by kernel_rfl))
  f319 := Tryd.func102.trans (congrArg some (by kernel_rfl))
  f320 := Tryd.func103.trans (congrArg some (by kernel_rfl))
  f321 := Tryd.func109.trans (congrArg some (by kernel_rfl))
  f322 := Tryd.func110.trans (congrArg some (by kernel_rfl))
  f337 := Tryd.func107.trans (congrArg some (by kernel_rfl))
  f338 := Tryd.func108.trans (congrArg some (by kernel_rfl))
  t0 := Tryd.underlying0
  a0 := Tryd.isAgg0
  z0 := Tryd.sizeOf0
  v0 := Tryd.zeroValue0
  t2 := Tryd.underlying2
  a2 := Tryd.isAgg2
  z2 := Tryd.sizeOf2
  v2 := Tryd.zeroValue2
  t3 := Tryd.underlying3
  a3 := Tryd.isAgg3
  z3 := Tryd.sizeOf3
  v3 := Tryd.zeroValue3
  t4 := Tryd.underlying4
  a4 := Tryd.isAgg4
  z4 := Tryd.sizeOf4
  v4 := Tryd.zeroValue4
  t5 := Tryd.underlying5
  a5 := Tryd.isAgg5
  z5 := Tryd.sizeOf5
  v5 := Tryd.zeroValue5
  t9 := Tryd.underlying9
  a9 := Tryd.isAgg9
  z9 := Tryd.sizeOf9
  v9 := Tryd.zeroValue9
  t20 := Tryd.underlying20
  a20 := Tryd.isAgg20
  z20 := Tryd.sizeOf20
  v20 := Tryd.zeroValue20
  t21 := Tryd.underlying21
  a21 := Tryd.isAgg21
  z21 := Tryd.sizeOf21
  v21 := Tryd.zeroValue21
  t37 := Tryd.underlying64
  a37 := Tryd.isAgg64
  z37 := Tryd.sizeOf64
  v37 := Tryd.zeroValue64
  t46 := Tryd.underlying119
  a46 := Tryd.isAgg119
  z46 := Tryd.sizeOf119
  v46 := Tryd.zeroValue119
  t51 := Tryd.underlying127
  a51 := Tryd.isAgg127
  z51 := Tryd.sizeOf127
  v51 := Tryd.zeroValue127
  t53 := Tryd.underlying122
  a53 := Tryd.isAgg122
  z53 := Tryd.sizeOf122
  v53 := Tryd.zeroValue122
  t75 := Tryd.underlying110
  a75 := Tryd.isAgg110
  z75 := Tryd.sizeOf110
  v75 := Tryd.zeroValue110
  t76 := Tryd.underlying111
  a76 := Tryd.isAgg111
  z76 := Tryd.sizeOf111
  v76 := Tryd.zeroValue111
  t85 := Tryd.underlying131
  a85 := Tryd.isAgg131
  z85 := Tryd.sizeOf131
  v85 := Tryd.zeroValue131
  t127 := Tryd.underlying152
  a127 := Tryd.isAgg152
  z127 := Tryd.sizeOf152
  v127 := Tryd.zeroValue152
  t143 := Tryd.underlying153
  a143 := Tryd.isAgg153
  z143 := Tryd.sizeOf153
  v143 := Tryd.zeroValue153
  t145 := Tryd.underlying155
  a145 := Tryd.isAgg155
  z145 := Tryd.sizeOf155
  v145 := Tryd.zeroValue155
  t167 := Tryd.underlying130
  a167 := Tryd.isAgg130
  z167 := Tryd.sizeOf130
  v167 := Tryd.zeroValue130
  t168 := Tryd.underlying133
  a168 := Tryd.isAgg133
  z168 := Tryd.sizeOf133
  v168 := Tryd.zeroValue133
  t171 := Tryd.underlying121
  a171 := Tryd.isAgg121
  z171 := Tryd.sizeOf121
  v171 := Tryd.zeroValue121
  t173 := Tryd.underlying125
  a173 := Tryd.isAgg125
  z173 := Tryd.sizeOf125
  v173 := Tryd.zeroValue125
  t175 := Tryd.underlying144
  a175 := Tryd.isAgg144
  z175 := Tryd.sizeOf144
  v175 := Tryd.zeroValue144
  t210 := Tryd.underlying148
  a210 := Tryd.isAgg148
  z210 := Tryd.sizeOf148
  v210 := Tryd.zeroValue148
  t212 := Tryd.underlying137
  a212 := Tryd.isAgg137
  z212 := Tryd.sizeOf137
  v212 := Tryd.zeroValue137
  t213 := Tryd.underlying138
  a213 := Tryd.isAgg138
  z213 := Tryd.sizeOf138
  t232 := Tryd.underlying156
  a232 := Tryd.isAgg156
  z232 := Tryd.sizeOf156
  v232 := Tryd.zeroValue156
  t233 := Tryd.underlying157
  a233 := Tryd.isAgg157
  z233 := Tryd.sizeOf157
  v233 := Tryd.zeroValue157
  g15 := by kernel_rfl
  g16 := by kernel_rfl
  g17 := by kernel_rfl
  g18 := by kernel_rfl
  g19 := by kernel_rfl
  t80 := Tryd.underlying158
  a80 := Tryd.isAgg158
  z80 := Tryd.sizeOf158
  v80 := Tryd.zeroValue158
  i0 := by kernel_rfl
  i2 := by kernel_rfl
  i3 := by kernel_rfl
  i4 := by kernel_rfl
  i5 := by kernel_rfl
  i9 := by kernel_rfl
  i20 := by kernel_rfl
  i21 := by kernel_rfl
  i37 := by kernel_rfl
  i46 := by kernel_rfl
  i51 := by kernel_rfl
  i53 := by kernel_rfl
  i75 := by kernel_rfl
  i76 := by kernel_rfl
  i80 := by kernel_rfl
  i85 := by kernel_rfl
  i127 := by kernel_rfl
  i143 := by kernel_rfl
  i145 := by kernel_rfl
  i167 := by kernel_rfl
  i168 := by kernel_rfl
  i171 := by kernel_rfl
  i173 := by kernel_rfl
  i175 := by kernel_rfl
  i210 := by kernel_rfl
  i212 := by kernel_rfl
  i232 := by kernel_rfl
  i233 := by kernel_rfl
  m15 := by kernel_rfl
  m16 := by kernel_rfl
  m17 := by kernel_rfl
  m18 := by kernel_rfl
  m19 := by kernel_rfl
  c0 := by kernel_rfl
  c2 := by kernel_rfl
  c3 := by kernel_rfl
  c4 := by kernel_rfl
  c5 := by kernel_rfl
  c9 := by kernel_rfl
  c20 := by kernel_rfl
  c21 := by kernel_rfl
  c37 := by kernel_rfl
  c46 := by kernel_rfl
  c51 := by kernel_rfl
  c53 := by kernel_rfl
  c75 := by kernel_rfl
  c76 := by kernel_rfl
  c80 := by kernel_rfl
  c85 := by kernel_rfl
  c127 := by kernel_rfl
  c143 := by kernel_rfl
  c145 := by kernel_rfl
  c167 := by kernel_rfl
  c168 := by kernel_rfl
  c171 := by kernel_rfl
  c173 := by kernel_rfl
  c175 := by kernel_rfl
  c210 := by kernel_rfl
  c212 := by kernel_rfl
  c213 := by kernel_rfl
  c232 := by kernel_rfl
  c233 := by kernel_rfl

def lays146_ren : Go.Shelf.Ren := ⟨fun | 146 => 42 | 221 => 62 | 268 => 71 | 138 => 72 | 143 => 73 | 195 => 78 | 197 => 79 | 218 => 80 | 219 => 74 | 260 => 91 | 217 => 81 | 225 => 82 | 224 => 83 | 267 => 84 | 266 => 92 | 314 => 93 | n => n, fun | 9 => 9 | 31 => 63 | 3 => 3 | 4 => 4 | 0 => 0 | 105 => 115 | 21 => 21 | 5 => 5 | 46 => 119 | 119 => 140 | 139 => 143 | 138 => 142 | 146 => 128 | 51 => 127 | n => n, fun | 1 => 0 | 3 => 2 | 4 => 3 | n => n⟩
theorem lays146 : Go.Proofs.Lays.n146 Tryd.prog lays146_ren where
  mixed := by kernel_rfl
  f138 := Tryd.func72.trans (congrArg some (by kernel_rfl))
  f143 := Tryd.func73.trans (congrArg some (by kernel_rfl))
  f146 := Tryd.func42.trans (congrArg some (by kernel_rfl))
  f195 := Tryd.func78.trans (congrArg some (by kernel_rfl))
  f197 := Tryd.func79.trans (congrArg some (by kernel_rfl))
  f217 := Tryd.func81.trans (congrArg some (by kernel_rfl))
  f218 := Tryd.func80.trans (congrArg some (by kernel_rfl))
  f219 := Tryd.func74.trans (congrArg some (by kernel_rfl))
  f221 := Tryd.func62.trans (congrArg some (by kernel_rfl))
  f224 := Tryd.func83.trans (congrArg some (by kernel_rfl))
  f225 := Tryd.func82.trans (congrArg some (by kernel_rfl))
  f260 := Tryd.func91.trans (congrArg some (by kernel_rfl))
  f266 := Tryd.func92.trans (congrArg some (by kernel_rfl))
  f267 := Tryd.func84.trans (congrArg some (by kernel_rfl))
  f268 := Tryd.func71.trans (congrArg some (by kernel_rfl))
  f314 := Tryd.func93.trans (congrArg some (by kernel_rfl))
  t0 := Tryd.underlying0
  a0 := Tryd.isAgg0
  z0 := Tryd.sizeOf0
  v0 := Tryd.zeroValue0
  t3 := Tryd.underlying3
  a3 := Tryd.isAgg3
  z3 := Tryd.sizeOf3
  v3 := Tryd.zeroValue3
  t4 := Tryd.underlying4
  a4 := Tryd.isAgg4
  z4 := Tryd.sizeOf4
  v4 := Tryd.zeroValue4
  t5 := Tryd.underlying5
  a5 := Tryd.isAgg5
  z5 := Tryd.sizeOf5
  v5 := Tryd.zeroValue5
  t9 := Tryd.underlying9
  a9 := Tryd.isAgg9
  z9 := Tryd.sizeOf9
  v9 := Tryd.zeroValue9
  t21 := Tryd.underlying21
  a21 := Tryd.isAgg21
  z21 := Tryd.sizeOf21
  v21 := Tryd.zeroValue21
  t31 := Tryd.underlying63
  a31 := Tryd.isAgg63
  z31 := Tryd.sizeOf63
  v31 := Tryd.zeroValue63
  t46 := Tryd.underlying119
  a46 := Tryd.isAgg119
  z46 := Tryd.sizeOf119
  v46 := Tryd.zeroValue119
  t51 := Tryd.underlying127
  a51 := Tryd.isAgg127
  z51 := Tryd.sizeOf127
  v51 := Tryd.zeroValue127
  t105 := Tryd.underlying115
  a105 := Tryd.isAgg115
  z105 := Tryd.sizeOf115
  v105 := Tryd.zeroValue115
  t119 := Tryd.underlying140
  a119 := Tryd.isAgg140
  z119 := Tryd.sizeOf140
  t138 := Tryd.underlying142
  a138 := Tryd.isAgg142
  z138 := Tryd.sizeOf142
  v138 := Tryd.zeroValue142
  t139 := Tryd.underlying143
  a139 := Tryd.isAgg143
  z139 := Tryd.sizeOf143
  v139 := Tryd.zeroValue143
  t146 := Tryd.underlying128
  a146 := Tryd.isAgg128
  z146 := Tryd.sizeOf128
  v146 := Tryd.zeroValue128
  g1 := by kernel_rfl
  g3 := by kernel_rfl
  g4 := by kernel_rfl

def lays145_ren : Go.Shelf.Ren := ⟨fun | 145 => 43 | 220 => 63 | 219 => 74 | 217 => 81 | 225 => 82 | 224 => 83 | 267 => 84 | 266 => 92 | 314 => 93 | n => n, fun | 9 => 9 | 4 => 4 | 59 => 83 | 3 => 3 | 5 => 5 | 46 => 119 | 146 => 128 | 51 => 127 | n => n, fun | 1 => 0 | n => n⟩
theorem lays145 : Go.Proofs.Lays.n145 Tryd.prog lays145_ren where
  mixed := by kernel_rfl
  f145 := Tryd.func43.trans (congrArg some (by kernel_rfl))
  f217 := Tryd.func81.trans (congrArg some (by kernel_rfl))
  f219 := Tryd.func74.trans (congrArg some (by kernel_rfl))
  f220 := Tryd.func63.trans (congrArg some (by kernel_rfl))
  f224 := Tryd.func83.trans (congrArg some (by kernel_rfl))
  f225 := Tryd.func82.trans (congrArg some (by kernel_rfl))
  f266 := Tryd.func92.trans (congrArg some (by kernel_rfl))
  f267 := Tryd.func84.trans (congrArg some (by kernel_rfl))
  f314 := Tryd.func93.trans (congrArg some (by kernel_rfl))
  t3 := Tryd.underlying3
  a3 := Tryd.isAgg3
  z3 := Tryd.sizeOf3
  v3 := Tryd.zeroValue3
  t4 := Tryd.underlying4
  a4 := Tryd.isAgg4
  z4 := Tryd.sizeOf4
  v4 := Tryd.zeroValue4
  t5 := Tryd.underlying5
  a5 := Tryd.isAgg5
  z5 := Tryd.sizeOf5
  v5 := Tryd.zeroValue5
  t9 := Tryd.underlying9
  a9 := Tryd.isAgg9
  z9 := Tryd.sizeOf9
  v9 := Tryd.zeroValue9
  t46 := Tryd.underlying119
  a46 := Tryd.isAgg119
  z46 := Tryd.sizeOf119
  v46 := Tryd.zeroValue119
  t51 := Tryd.underlying127
  a51 := Tryd.isAgg127
  z51 := Tryd.sizeOf127
  v51 := Tryd.zeroValue127
  t59 := Tryd.underlying83
  a59 := Tryd.isAgg83
  z59 := Tryd.sizeOf83
  v59 := Tryd.zeroValue83
  t146 := Tryd.underlying128
  a146 := Tryd.isAgg128
  z146 := Tryd.sizeOf128
  v146 := Tryd.zeroValue128
  g1 := by kernel_rfl


theorem var_below {P : Program} {w W : World} {name : String} {v : Array Value} (h : w.var? P name = some v) (hb : Below w.heap.size w W) : W.var? P name = some v := by
  unfold World.var? at *
  cases hg : P.globalNamed name with
  | none => rw [hg] at h; cases h
  | some i =>
    rw [hg] at h
    simp only [Option.bind_some] at h ⊢
    cases hh : w.heap[i]? with
    | none => rw [hh] at h; cases h
    | some o =>
      have hi : i < w.heap.size := (Array.getElem?_eq_some_iff.1 hh).1
      rw [hb.block i hi]
      exact h
theorem cell_below {w W : World} {b o : Nat} {v : Value} (h : w.cell? ⟨b, o, none⟩ = some v) (hb : Below w.heap.size w W) : W.cell? ⟨b, o, none⟩ = some v := by
  have hi := World.block_lt_of_cell? _ _ h
  rw [cell_of_heap (hb.block b hi)]; exact h
/-- What start-up laid, as far as lines are read by it. -/
def gD : Gr where
  p := fun w => Lib.TabIs Tryd.prog w "internal/strconv.uint64pow10" .u64 Lib.pow10Tab ∧ (∃ m, w.cell? ⟨lays146_ren.g 1, 0, none⟩ = some (.int .i64 m)) ∧ (∃ m, w.cell? ⟨lays145_ren.g 1, 0, none⟩ = some (.int .i64 m)) ∧ (∃ tp p, w.var? Tryd.prog "strconv.ErrSyntax" = some #[.iface tp p]) ∧ (∃ tp p, w.var? Tryd.prog "strconv.ErrRange" = some #[.iface tp p])
  up := fun hb ⟨h1, ⟨m, h2⟩, ⟨m', h3⟩, ⟨t, p, h4⟩, ⟨t', p', h5⟩⟩ => ⟨TabIs.below h1 hb, ⟨m, cell_below h2 hb⟩, ⟨m', cell_below h3 hb⟩, ⟨t, p, var_below h4 hb⟩, ⟨t', p', var_below h5 hb⟩⟩
theorem rk1 {x : Value} : Rks [x] [.v x] [] := ⟨[], [], ⟨rfl, rfl⟩, rfl, rfl⟩
theorem rk2 {x y : Value} : Rks [x, y] [.v x, .v y] [] := ⟨[], [], ⟨rfl, rfl⟩, rk1, rfl⟩
theorem rk3 {x y z : Value} : Rks [x, y, z] [.v x, .v y, .v z] [] := ⟨[], [], ⟨rfl, rfl⟩, rk2, rfl⟩
theorem AtoiD (s : ByteArray) (hs : s.size ≤ 1048576) : Cg Tryd.prog 75 (some gD) [.T s] (fun a : Int × Value => (a.2 = .nilIface ∧ atoiAll s.data.toList = .ok a.1) ∨ ((∃ tp p, a.2 = .iface tp p) ∧ ∀ v, atoiAll s.data.toList ≠ .ok v)) (fun a => [.I a.1, .v a.2]) := ⟨fun w us hG hp => by
  have hs' : s.size ≤ 281474976710656 := by omega
  match us, hp with
  | [_], ⟨rfl, _⟩ =>
    obtain ⟨_, _, _, ⟨t1, p1, h1⟩, ⟨t2, p2, h2⟩⟩ := hG
    cases h : atoiAll s.data.toList
    · rename_i v
      refine (Any.strconv_Atoi_ok laysC172 s (by omega) v h w).mono ?_
      rintro e w' ⟨he, hw⟩
      refine ⟨(v, .nilIface), [I v, .nilIface], [], .inl ⟨rfl, rfl⟩, he, rk2, St.of_below ?_⟩
      rcases hw with rfl | ⟨t, rfl⟩
      · exact Below.refl _ _
      · exact Lib.bytesWorld_below _ _ _
    · refine (Any.strconv_Atoi_syntax_var laysC172 s hs' h t1 p1 w h1).mono ?_
      rintro e w' ⟨N, he, _, _, hb⟩
      exact ⟨(0, _), [I 0, _], [], .inr ⟨⟨_, _, rfl⟩, by simp⟩, he, rk2, St.of_below hb⟩
    · refine (Any.strconv_Atoi_range_var laysC172 s hs' h t2 p2 w h2).mono ?_
      rintro e w' ⟨N, he, _, _, hb⟩
      exact ⟨(_, _), [I _, _], [], .inr ⟨⟨_, _, rfl⟩, by simp⟩, he, rk2, St.of_below hb⟩⟩
theorem atoi_64 {l : List UInt8} {v : Int} (h : atoiAll l = .ok v) : -9223372036854775808 ≤ v ∧ v ≤ 9223372036854775807 := atoiAll_bounds h
theorem elems_strs {W : World} : ∀ {ys : List ByteArray}, (∀ y ∈ ys, y.size ≤ maxLen) → Elems W (ys.map Value.string) ys []
  | [], _ => Elems.s0
  | y :: ys, h => Elems.sc (h y List.mem_cons_self) (elems_strs fun x hx => h x (List.mem_cons_of_mem _ hx))
theorem own_strs {w : World} {ys : List ByteArray} {t : TypeId} (hne : ys ≠ []) (hs : ∀ y ∈ ys, y.size ≤ maxLen) (hl : ys.length ≤ 9223372036854775807) : St w (w.alloc (.cells (ys.map Value.string).toArray t)) [Res.own (.slice (some ⟨w.heap.size, 0, none⟩) ys.length ys.length) ys [w.heap.size]] := by
  have st := (St.start w).alloc (ys.map Value.string) t
  refine st.trade1 rfl fun hh => ?_
  have hh' : (w.alloc (.cells (ys.map Value.string).toArray t)).heap[w.heap.size]? = some (.cells (ys.map Value.string).toArray t (0, 0)) := hh
  have hsl : Sl (w.alloc (.cells (ys.map Value.string).toArray t)) (.slice (some ⟨w.heap.size, 0, none⟩) ys.length ys.length) ys [w.heap.size] :=
    ⟨some ⟨_, 0, none⟩, ys.length, rfl, Nat.le_refl _, hl, .inr ⟨_, 0, [], hne, rfl, rfl, (Array.getElem?_eq_some_iff.1 hh').1, (elems_strs hs).at 0 (range_of_heap hh')⟩⟩
  exact ⟨hsl.v, fun b hb => by simp at hb; subst hb; exact ⟨_, _, hh'⟩⟩
theorem splitPieces_sz (b : UInt8) (s : ByteArray) : ∀ p ∈ pieces b s, p.size ≤ s.size := by
  intro p hp
  obtain ⟨q, hq, rfl⟩ := List.mem_map.1 hp
  exact cutP_size b _ q hq
theorem SplitD (s : ByteArray) (hs : s.size ≤ 1048576) : Cg Tryd.prog 42 (some gD) [.T s, .T (bs [32])] (fun _ : Unit => True) (fun _ => [.L (pieces 32 s)]) := ⟨fun w us hG hp => by
  match us, hp with
  | [_, _], ⟨rfl, rfl, _⟩ =>
    obtain ⟨_, ⟨m, h1⟩, _⟩ := hG
    refine (Any.strings_Split lays146 (by kernel_rfl) s (bs [32]) m w (by omega) h1 (by decide)).mono ?_
    rintro e w' ⟨he, hw⟩
    have hlen : (pieces 32 s).length = countB s (bs [32]) + 1 := by rw [← split_pieces]; exact splitB_all (bs [32]) (by decide) 0 _ s rfl
    rw [split_pieces] at hw
    rw [← hlen] at he
    subst hw
    have hle := countB_le (bs [32]) (by decide) s.size s (Nat.le_refl _)
    exact ⟨(), [_], _, trivial, he, ⟨_, [], ⟨_, rfl⟩, rfl, rfl⟩, own_strs (pieces_ne 32 s) (fun y hy => by have := splitPieces_sz 32 s y hy; unfold maxLen; omega) (by omega)⟩⟩
theorem CutD (s : ByteArray) (hs : s.size ≤ 1048576) : Cg Tryd.prog 43 (some gD) [.T s, .T (bs [62])] (fun _ : Unit => True) (fun _ => [.T (bs (Lib.cut s.data.toList [62]).1), .T (bs (Lib.cut s.data.toList [62]).2.1), .B (Lib.cut s.data.toList [62]).2.2]) := ⟨fun w us hG hp => by
  match us, hp with
  | [_, _], ⟨rfl, rfl, _⟩ =>
    obtain ⟨_, _, ⟨m, h1⟩, _⟩ := hG
    refine (Any.strings_Cut lays145 s (bs [62]) m w (by omega) h1).mono ?_
    rintro e w' ⟨he, n, rfl⟩
    exact ⟨(), [_, _, _], [], trivial, he, rk3, St.of_below ⟨rfl, rfl, rfl, Nat.le_refl _, fun j hj => rfl⟩⟩⟩
theorem DecimalD (n : Int) (hn : -9223372036854775808 ≤ n ∧ n ≤ 9223372036854775807) : Cg Tryd.prog 31 (some gD) [.I n] (fun _ : Unit => True) (fun _ => [.T (itoaB n)]) := ⟨fun w us hG hp => by
  match us, hp with
  | [_], ⟨rfl, _⟩ => exact (DecimalI w n hn hG.1).mono fun e w' h => ⟨(), [_], [], trivial, h.1, rk1, h.2⟩⟩
theorem DecimalSD (n : Int) (hn : -9223372036854775808 ≤ n ∧ n ≤ 9223372036854775807) : Ct1 Tryd.prog 24 [.I n] [.T (itoaB n)] := ⟨fun w us hG hp => by
  match us, hp with
  | [_], ⟨rfl, _⟩ => exact (DecimalS w n hn).mono fun e w' h => ⟨(), [_], [], trivial, h.1, rk1, h.2⟩⟩
theorem DeedWordD (k : Int) (hk : 1 ≤ k ∧ k ≤ 8) : Ct1 Tryd.prog 37 [.I k] [.T (deedW k)] := ⟨fun w us hG hp => by
  match us, hp with
  | [_], ⟨rfl, _⟩ => exact (DeedWordI w k hk).mono fun e w' h => ⟨(), [_], [], trivial, h.1, rk1, h.2⟩⟩
theorem DeedLineD (d : Deed) : Cg Tryd.prog 18 (some gD) [.S d] (fun _ : Unit => True) (fun _ => [.T (deedLine d)]) := ⟨fun w us hG hp => by
  match us, hp with
  | [_], ⟨⟨cs, fp, rfl, hc⟩, _⟩ => exact (DeedLineI w hc hG.1).mono fun e w' h => ⟨(), [_], [], trivial, h.1, rk1, h.2⟩⟩
theorem DeedLineSD (d : Deed) : Ct1 Tryd.prog 16 [.S d] [.T (deedLine d)] := ⟨fun w us hG hp => by
  match us, hp with
  | [_], ⟨⟨cs, fp, rfl, hc⟩, _⟩ => exact (DeedLineS w hc).mono fun e w' h => ⟨(), [_], [], trivial, h.1, rk1, h.2⟩⟩
theorem WithinD (x a b : Int) : Ct1 Tryd.prog 53 [.I x, .I a, .I b] [.B (inB x a b)] :=
  .one (inB x a b) (rk := (fun a => [.B a])) <| vc Tryd.func53 (fun hg => .s (a ≤ x) (fun h1 => .rt (decide (x ≤ b)) ⟨by unfold inB; simp [*], trivial⟩) (fun h1 => .rt false ⟨by unfold inB; simp [*], trivial⟩)) (by kernel_rfl)

end Go.Proofs.YtchnllpegfbleaaDoor

/-
  Bytes of strings, parts of strings, bytes compared, as hooks. Theory alone.
-/
namespace Go.Proofs.YtchnllpegfbleaaDoor
set_option linter.unusedSimpArgs false
set_option linter.unusedVariables false
open Go.RowKit
abbrev U (c : UInt8) : Value := .int .u8 (c.toNat : Int)
theorem byte_lt (c : UInt8) : c.toNat < 256 := by have := c.toNat_lt; omega
theorem hk_ix {P : Program} {t : TypeId} {s : ByteArray} {i : Nat} {c : UInt8} {e : Int} (hu : P.underlying t = some .string) (h : s.data.toList[i]? = some c) (he : e = i) : XOk P t (.string s) (I e) (U c) := by
  intro n f W Q K d ty pos af g xo yo hx hy k
  subst he
  obtain ⟨hi, rfl⟩ := List.getElem?_eq_some_iff.1 h
  refine Stp.run (v := U (s.data.toList[i])) ?_ k
  have hs : 0 ≤ (i : Int) ∧ (i : Int) < s.size := ⟨by omega, by have : s.size = s.data.toList.length := rfl; omega⟩
  have := run_index_string (P := P) (w := W) t s .i64 i hu
  rw [dif_pos hs] at this
  simp only [execOp, hx, hy, Sem.run_bind, this, Result.andThen_ok]; rfl
theorem hk_eq {P : Program} (a b : UInt8) : BOk P .eql (U a) (U b) (.bool (decide (a = b))) := by
  intro n f W Q K d ty pos af g t t' xo yo hx hy k
  refine Stp.run (v := .bool (decide (a = b))) ?_ k
  have : (((a.toNat : Nat) : Int) == ((b.toNat : Nat) : Int)) = decide (a = b) := by
    by_cases h : a = b
    · subst h; simp
    · have h2 : ¬ a.toNat = b.toNat := fun e => h (UInt8.toNat_inj.1 e)
      have h3 : ¬ ((a.toNat : Int) = (b.toNat : Int)) := by omega
      simp [h, h3]
  simp [execOp, hx, hy, go_sem]
  exact this
theorem hk_lt {P : Program} (a b : Int) : BOk P .lss (.int .u8 a) (.int .u8 b) (.bool (decide (a < b))) := by
  intro n f W Q K d ty pos af g t t' xo yo hx hy k
  refine Stp.run (v := .bool (decide (a < b))) ?_ k
  simp [execOp, hx, hy, go_sem]
theorem hk_gt {P : Program} (a b : Int) : BOk P .gtr (.int .u8 a) (.int .u8 b) (.bool (decide (b < a))) := by
  intro n f W Q K d ty pos af g t t' xo yo hx hy k
  refine Stp.run (v := .bool (decide (b < a))) ?_ k
  simp [execOp, hx, hy, go_sem]
theorem hk_b2i {P : Program} {t t' : TypeId} (c : UInt8) (hs : P.underlying t = some (.int .u8)) (hd : P.underlying t' = some (.int .i64)) : COk P t t' (U c) (I c.toNat) := by
  intro n f W Q K d ty pos af g xo hx k
  refine Stp.run (v := I c.toNat) ?_ k
  have hc := byte_lt c
  have hk : P.intKind t' = .i64 := by simp [Program.intKind, hd]
  have hw : IntKind.i64.wrap (c.toNat : Int) = c.toNat := wrap_I64 ⟨by omega, by omega⟩
  have hd' : P.underlying t' = some (.int (P.intKind t')) := by rw [hk]; exact hd
  have := run_convert_int (P := P) W t t' .u8 c.toNat (by rw [hs]; rfl) hd'
  rw [hk, hw] at this
  simp only [execOp, hx, Sem.run_bind, this, Result.andThen_ok]; rfl
theorem hk_cut {P : Program} {t : TypeId} {s : ByteArray} {a b : Nat} (hu : P.underlying t = some .string) (h1 : a ≤ b) (h2 : b ≤ s.size) : LOk P t (.string s) (some (I a)) (some (I b)) (.string (s.extract a b)) := by
  intro n f W Q K d ty pos af g xo lo hi hx hl hh k
  cases lo with
  | none => cases hl
  | some lo =>
    cases hi with
    | none => cases hh
    | some hi =>
      simp only [Option.map_some, Option.some.injEq] at hl hh
      refine Stp.run (v := .string (s.extract a b)) ?_ k
      have := run_slice_string (P := P) W t s .i64 .i64 a b hu (by omega) (by omega) (by omega)
      simp only [execOp, hx, hl, hh, Sem.run_bind, Option.map_some, Option.map_none]
      rw [run_sliceAt_string (h := hu)]
      have e : Sem.run P (Instr.slice t (Value.string s) (some (I a)) (some (I b)) none) W = Result.ok (Value.string (s.extract a b)) W := by simpa using this
      rw [e]; rfl
theorem run_equal_nn {P : Program} {w : World} {t : TypeId} {ms : _} (h : P.underlying t = some (.interface ms)) : (Op.equal t .nilIface .nilIface).run P w = .ok true w := by
  have key : ∀ d, (Op.equalIn (d + 1) t .nilIface .nilIface).run P w = .ok true w := fun d => by simp [Op.equalIn, run_underlying h]
  exact key 9999
theorem run_equal_in {P : Program} {w : World} {t tp : TypeId} {p : Value} {ms : _} (h : P.underlying t = some (.interface ms)) : (Op.equal t (.iface tp p) .nilIface).run P w = .ok false w := by
  have key : ∀ d, (Op.equalIn (d + 1) t (.iface tp p) .nilIface).run P w = .ok false w := fun d => by simp [Op.equalIn, run_underlying h]
  exact key 9999
theorem hk_nen {P : Program} {t : TypeId} {ms : _} {x : Value} (ht : P.underlying t = some (.interface ms)) (e : x = .nilIface) : NOk P t x false := by
  subst e
  intro n f W Q K d ty pos af g t' xo hx k
  refine Stp.run (v := .bool false) ?_ k
  have hy : ev n f (.const .nilIface) = .nilIface := rfl
  simp [execOp, hx, hy, go_sem, binOp, run_equal_nn ht]
theorem hk_nei {P : Program} {t : TypeId} {ms : _} {x : Value} (ht : P.underlying t = some (.interface ms)) (e : ∃ tp p, x = .iface tp p) : NOk P t x true := by
  obtain ⟨tp, p, rfl⟩ := e
  intro n f W Q K d ty pos af g t' xo hx k
  refine Stp.run (v := .bool true) ?_ k
  have hy : ev n f (.const .nilIface) = .nilIface := rfl
  simp [execOp, hx, hy, go_sem, binOp, run_equal_in ht]
end Go.Proofs.YtchnllpegfbleaaDoor

/-
  Numbers, words and edges read, of the program and of the reference.
-/
namespace Go.Proofs.YtchnllpegfbleaaDoor
set_option linter.unusedSimpArgs false
set_option linter.unusedVariables false
set_option maxRecDepth 100000
open Go.RowKit Go.Lib
noncomputable def dnR (s : ByteArray) : Int × Bool := ((readDec s).getD 0, (readDec s).isSome)
noncomputable def numsR (ws : List ByteArray) : List Int × Bool := ((numsOf ws).getD [], (numsOf ws).isSome)
noncomputable def edgesR (ws : List ByteArray) : List Edge × Bool := ((edgesOf ws).getD [], (edgesOf ws).isSome)
theorem dnR_some {s : ByteArray} {z : Int} (h : readDec s = some z) : (z, true) = dnR s := by simp [dnR, h]
theorem dnR_none {s : ByteArray} (h : readDec s = none) : (0, false) = dnR s := by simp [dnR, h]
theorem dn_I64 (s : ByteArray) : I64 ((readDec s).getD 0) := by
  cases h : readDec s with
  | none => exact i64z
  | some z => have := readDec_spec h; exact i64r ⟨this.1, this.2.1⟩
/-! ### Numbers -/
theorem dn_no {s : ByteArray} (h : ∀ v, atoiAll s.data.toList ≠ .ok v) : (0, false) = dnR s := dnR_none (by
  cases hr : readDec s with
  | none => rfl
  | some z => exact absurd (readDec_atoi hr) (h z))
theorem dn_ne {s : ByteArray} {v : Int} (h : atoiAll s.data.toList = .ok v) (h2 : ¬ (itoaB v = s ∧ 0 ≤ v ∧ v ≤ 1000000000)) : (0, false) = dnR s := dnR_none (by
  cases hr : readDec s with
  | none => rfl
  | some z =>
    have h3 := readDec_atoi hr
    rw [h] at h3
    cases h3
    have := readDec_spec hr
    exact absurd ⟨this.2.2.symm, this.1, this.2.1⟩ h2)
theorem dn_yes {s : ByteArray} {v : Int} (h : itoaB v = s) (h2 : 0 ≤ v ∧ v ≤ 1000000000) : (v, true) = dnR s := dnR_some (readDec_int h2.1 h2.2 h.symm)
theorem ReadDecimalI (s : ByteArray) (hs : s.size ≤ 1048576) : Cg Tryd.prog 64 (some gD) [.T s] (fun _ : Unit => True) (fun _ => [.I (dnR s).1, .B (dnR s).2]) :=
  .one (dnR s) (rk := fun a => [.I a.1, .B a.2]) <| vcg (some gD) Tryd.func64 (fun hg => .cl 75 Tryd.func75 (AtoiD s hs) trivial fun a ha _ => .oc ha
    (fun h1 => .pn 110 (sc a.2).val false (hk_nen Tryd.underlying110 ((sc_val _).trans h1.1)) <| .kn false false rfl <|
      .c Tryd.func31 (DecimalD a.1 (atoi_64 h1.2)) fun _ => .u (itoaB a.1 = s)
        (fun hn => .rt (0, false) ⟨dn_ne h1.2 (fun h => hn h.1), trivial⟩)
        (fun he => .c Tryd.func53 (WithinD a.1 0 1000000000) fun _ => .v (inB a.1 0 1000000000)
          (fun hb => .rt (0, false) ⟨dn_ne h1.2 (fun h => by rw [inB_iff'.2 h.2] at hb; cases hb), trivial⟩)
          (fun hb => .rt (a.1, true) ⟨dn_yes he (inB_iff'.1 hb), trivial⟩)))
    (fun h1 => .pn 110 (sc a.2).val true (hk_nei Tryd.underlying110 (h1.1.imp fun _ h => h.imp fun _ h => (sc_val _).trans h)) <| .kn true true rfl <|
      .rt (0, false) ⟨dn_no h1.2, trivial⟩)) (by kernel_rfl)
theorem dv_take {l : List UInt8} {i : Nat} {c : UInt8} (h : l[i]? = some c) : dv (l.take (i + 1)) = dv (l.take i) * 10 + (c.toNat - 48) := by
  obtain ⟨hi, rfl⟩ := List.getElem?_eq_some_iff.1 h
  rw [List.take_succ_eq_append_getElem hi, dv_app]
theorem dv_acc : ∀ (l : List UInt8) (acc : Nat), (∀ c ∈ l, 48 ≤ c.toNat ∧ c.toNat ≤ 57) → l.foldl (fun a c => a * 10 + (c.toNat - 48)) acc + 1 ≤ (acc + 1) * 10 ^ l.length
  | [], acc, _ => by simp
  | c :: l, acc, h => by
    have h1 := dv_acc l (acc * 10 + (c.toNat - 48)) fun x hx => h x (List.mem_cons_of_mem _ hx)
    have h2 := h c List.mem_cons_self
    rw [List.foldl_cons, List.length_cons, Nat.pow_succ]
    refine Nat.le_trans h1 ?_
    have h3 : acc * 10 + (c.toNat - 48) + 1 ≤ (acc + 1) * 10 := by omega
    have := Nat.mul_le_mul_right (10 ^ l.length) h3
    rw [Nat.mul_assoc, Nat.mul_comm 10] at this
    exact this
theorem dv_lt {l : List UInt8} {k : Nat} (hk : l.length ≤ k) (h : ∀ c ∈ l, 48 ≤ c.toNat ∧ c.toNat ≤ 57) : dv l < 10 ^ k := by
  have h1 := dv_acc l 0 h
  have h2 : 10 ^ l.length ≤ 10 ^ k := Nat.pow_le_pow_right (by omega) hk
  unfold dv
  omega
structure DJ (s : ByteArray) (i : Nat) : Prop where
  le : i ≤ s.size
  len : s.size ≤ 10
  dg : ∀ c ∈ s.data.toList.take i, 48 ≤ c.toNat ∧ c.toNat ≤ 57
theorem DJ.lt {s : ByteArray} {i : Nat} (h : DJ s i) : dv (s.data.toList.take i) < 10000000000 := by
  have := dv_lt (l := s.data.toList.take i) (k := 10) (by rw [List.length_take]; have := h.le; have := h.len; omega) h.dg
  omega
theorem DJ.next {s : ByteArray} {i : Nat} {c : UInt8} (h : DJ s i) (hc : s.data.toList[i]? = some c) (h1 : ¬ (c.toNat : Int) < 48) (h2 : ¬ (57 : Int) < c.toNat) : DJ s (i + 1) := by
  obtain ⟨hi, rfl⟩ := List.getElem?_eq_some_iff.1 hc
  refine ⟨hi, h.len, fun x hx => ?_⟩
  rw [List.take_succ_eq_append_getElem hi] at hx
  rcases List.mem_append.1 hx with hx | hx
  · exact h.dg x hx
  · simp only [List.mem_singleton] at hx; subst hx; omega
theorem dn_dig {s : ByteArray} {i : Nat} {c : UInt8} (hc : s.data.toList[i]? = some c) (h : (c.toNat : Int) < 48 ∨ (57 : Int) < c.toNat) : (0, false) = dnR s := dnR_none (by
  cases hr : readDec s with
  | none => rfl
  | some z =>
    have := (readDec_digit hr).1 c (List.mem_of_getElem? hc)
    omega)
theorem dn_long {s : ByteArray} (h : (10 : Int) < s.size) : (0, false) = dnR s := dnR_none (by
  cases hr : readDec s with
  | none => rfl
  | some z => have := readDec_len hr; omega)
theorem dn_big {s : ByteArray} (h : (1000000000 : Int) < dv s.data.toList) : (0, false) = dnR s := dnR_none (by
  cases hr : readDec s with
  | none => rfl
  | some z => have := (readDec_digit hr).2; have := readDec_spec hr; omega)
theorem dn_neq {s : ByteArray} (h : ¬ itoaB (dv s.data.toList : Int) = s) : (0, false) = dnR s := dnR_none (by
  cases hr : readDec s with
  | none => rfl
  | some z =>
    have h1 := (readDec_digit hr).2
    have h2 := readDec_spec hr
    exact absurd (by rw [h1, show ((z.toNat : Nat) : Int) = z by omega]; exact h2.2.2.symm) h)
theorem take_all {s : ByteArray} {i : Nat} (h : DJ s i) (hi : ¬ (i : Int) < s.size) : s.data.toList.take i = s.data.toList := List.take_of_length_le (by have : s.data.toList.length = s.size := rfl; omega)
theorem ReadDecimalS (s : ByteArray) (hs : s.size ≤ maxLen) : Ct1 Tryd.prog 61 [.T s] [.I (dnR s).1, .B (dnR s).2] :=
  .one (dnR s) (rk := fun a => [.I a.1, .B a.2]) <| vc Tryd.func61 (fun hg => .s ((10 : Int) < s.size)
    (fun h => .rt (0, false) ⟨dn_long h, trivial⟩)
    (fun h0 => .l (Γ := Nat) (fun i => DJ s i) (fun i => s.size - i) [0] [] [] (fun i => [vI 4 (dv (s.data.toList.take i)), vI 5 i]) (fun _ => []) 0 (h := ⟨Nat.zero_le _, by omega, by simp⟩) fun i hJ t =>
      .s ((i : Int) < s.size)
        (fun hi => .ex (p := fun c => s.data.toList[i]? = some c) ⟨_, List.getElem?_eq_getElem (show i < s.data.toList.length by have : s.data.toList.length = s.size := rfl; omega)⟩ fun c hc =>
          .px (hk_ix (t := 9) (e := i) Tryd.underlying9 hc rfl) <| .pb .lss (hk_lt c.toNat 48) <| .s ((c.toNat : Int) < 48)
            (fun hl => .rt (0, false) ⟨dn_dig hc (.inl hl), trivial⟩)
            (fun hl => .px (hk_ix (t := 9) (e := i) Tryd.underlying9 hc rfl) <| .pb .gtr (hk_gt c.toNat 57) <| .s ((57 : Int) < c.toNat)
              (fun hu => .rt (0, false) ⟨dn_dig hc (.inr hu), trivial⟩)
              (fun hu => .o 10 (dv (s.data.toList.take i)) (h := by have := hJ.lt; unfold I64; omega) <| .px (hk_ix (t := 9) (e := i) Tryd.underlying9 hc rfl) <| .pc (hk_b2i (t := 5) (t' := 3) c Tryd.underlying5 Tryd.underlying3) <|
                .p (10 * (dv (s.data.toList.take i) : Int)) c.toNat (h := by have := hJ.lt; have := byte_lt c; unfold I64; omega) <|
                .m (10 * (dv (s.data.toList.take i) : Int) + c.toNat) 48 (h := by have := hJ.lt; have := byte_lt c; unfold I64; omega) <|
                .rv 32 (I (dv (s.data.toList.take (i + 1)))) (show I (10 * (dv (s.data.toList.take i) : Int) + c.toNat - 48) = I (dv (s.data.toList.take (i + 1))) from congrArg I (by rw [dv_take hc]; omega)) <|
                .p i 1 (h := by have := hJ.len; unfold I64; omega) <| .n t (i + 1) [] (hJ.next hc hl hu) (by have := hJ.le; omega))))
        (fun hi => .rv 4 (I (dv s.data.toList)) (congrArg (fun l => I (dv l)) (take_all hJ hi)) <| .s ((1000000000 : Int) < dv s.data.toList)
          (fun hb => .rt (0, false) ⟨dn_big hb, trivial⟩)
          (fun hb => .c Tryd.func24 (DecimalSD (dv s.data.toList) (by omega)) fun _ => .u (itoaB (dv s.data.toList : Int) = s)
            (fun hn => .rt (0, false) ⟨dn_neq hn, trivial⟩)
            (fun he => .rt ((dv s.data.toList : Int), true) ⟨dn_yes he (by omega), trivial⟩))))) (by kernel_rfl)
/-! ### Rows of numbers -/
theorem nums_bad {ws : List ByteArray} {k : Nat} {w : ByteArray} (hw : ws[k]? = some w) (h : (readDec w).isSome = false) : ([], false) = numsR ws := by
  have h1 : readDec w = none := by cases hr : readDec w with
    | none => rfl
    | some z => rw [hr] at h; cases h
  simp [numsR, numsOf_bad hw h1]
theorem nums_all {ws : List ByteArray} {k : Nat} {l : List Int} (h : numsOf (ws.take k) = some l) (hk : ¬ (k : Int) < ws.length) : (l, true) = numsR ws := by
  rw [List.take_of_length_le (by omega)] at h
  simp [numsR, h]
def NJ (ws : List ByteArray) (k : Nat) (l : List Int) : Prop := k ≤ ws.length ∧ numsOf (ws.take k) = some l ∧ l.length = k
theorem NJ.next {ws : List ByteArray} {k : Nat} {l : List Int} {w : ByteArray} (h : NJ ws k l) (hw : ws[k]? = some w) (h2 : (readDec w).isSome = true) : NJ ws (k + 1) (l ++ [(readDec w).getD 0]) := by
  obtain ⟨hk, rfl⟩ := List.getElem?_eq_some_iff.1 hw
  refine ⟨hk, ?_, by simp [h.2.2]⟩
  rw [List.take_succ_eq_append_getElem hk, numsOf_app, h.2.1]
  cases hr : readDec ws[k] with
  | none => rw [hr] at h2; cases h2
  | some z => rfl
theorem ReadNumbersI (ws : List ByteArray) (hl : ws.length ≤ 1048577) (hz : ∀ w ∈ ws, w.size ≤ 1048576) : Cg Tryd.prog 44 (some gD) [.L ws] (fun _ : Unit => True) (fun _ => [.L (numsR ws).1, .B (numsR ws).2]) :=
  .one (numsR ws) (rk := fun a => [.L a.1, .B a.2]) <| vcg (some gD) Tryd.func44 (fun hg => .w Int 3 4 <| .l (Γ := Nat × List Int) (fun g => NJ ws g.1 g.2) (fun g => ws.length - g.1) [9, 10] [] [0] (fun g => [vR 4 1, vI 11 g.1]) (fun g => [oR 1 3 g.2]) (0, []) (h := ⟨Nat.zero_le _, rfl, rfl⟩) fun g hJ t =>
    .s ((g.1 : Int) < ws.length)
      (fun h => .x ws g.1 (h := by omega) fun w hw hs => .c Tryd.func64 (ReadDecimalI w (hz w (List.mem_of_getElem? hw))) fun _ => .v (readDec w).isSome
        (fun h2 => .rt ([], false) ⟨nums_bad hw h2, trivial⟩)
        (fun h2 => .a g.2 ((readDec w).getD 0) 8 (hy := dn_I64 w) (h63 := by have := hJ.2.2; unfold maxLen; omega) (hby := by have := hJ.2.2; omega) <| .p g.1 1 (h := by unfold I64; omega) <| .n t (g.1 + 1, g.2 ++ [(readDec w).getD 0]) [] (hJ.next hw h2) (by dsimp only; omega)))
      (fun h => .rt (g.2, true) ⟨nums_all hJ.2.1 h, trivial⟩)) (by kernel_rfl)
theorem NumsS (ws : List ByteArray) (hl : ws.length ≤ 1048577) : Ct1 Tryd.prog 40 [.L ws] [.L (numsR ws).1, .B (numsR ws).2] :=
  .one (numsR ws) (rk := fun a => [.L a.1, .B a.2]) <| vc Tryd.func40 (fun hg => .e Int <| .l (Γ := Nat × List Int) (fun g => NJ ws g.1 g.2) (fun g => ws.length - g.1) [0] [] [0] (fun g => [vR 4 1, vI 5 g.1]) (fun g => [oR 1 3 g.2]) (0, []) (h := ⟨Nat.zero_le _, rfl, rfl⟩) fun g hJ t =>
    .s ((g.1 : Int) < ws.length)
      (fun h => .x ws g.1 (h := by omega) fun w hw hs => .c Tryd.func61 (ReadDecimalS w hs) fun _ => .v (readDec w).isSome
        (fun h2 => .e Int <| .rt ([], false) ⟨nums_bad hw h2, trivial⟩)
        (fun h2 => .a g.2 ((readDec w).getD 0) 8 (hy := dn_I64 w) (h63 := by have := hJ.2.2; unfold maxLen; omega) (hby := by have := hJ.2.2; omega) <| .p g.1 1 (h := by unfold I64; omega) <| .n t (g.1 + 1, g.2 ++ [(readDec w).getD 0]) [] (hJ.next hw h2) (by dsimp only; omega)))
      (fun h => .rt (g.2, true) ⟨nums_all hJ.2.1 h, trivial⟩)) (by kernel_rfl)
/-! ### Words -/
def WJ (b : UInt8) (s : ByteArray) (i bg : Nat) (out : List ByteArray) : Prop :=
  i ≤ s.size + 1 ∧ bg ≤ i ∧ out.length ≤ i ∧ (i ≤ s.size → cutP b s.data.toList = out.map (·.data.toList) ++ pre ((s.data.toList.drop bg).take (i - bg)) (cutP b (s.data.toList.drop i))) ∧ (i = s.size + 1 → out = pieces b s)
theorem ext_data (s : ByteArray) (a b : Nat) : (s.extract a b).data.toList = (s.data.toList.drop a).take (b - a) := by
  rw [extract_data]
theorem pre_cons (p : List UInt8) (c : UInt8) (l : List (List UInt8)) : pre p (pre [c] l) = pre (p ++ [c]) l := pre_pre p [c] l
theorem WJ.start (b : UInt8) (s : ByteArray) : WJ b s 0 0 [] := ⟨Nat.zero_le _, Nat.le_refl _, Nat.le_refl _, fun _ => by simp [pre_nil (cutP_ne b _)], fun h => by omega⟩
theorem WJ.stop {b : UInt8} {s : ByteArray} {i bg : Nat} {out : List ByteArray} (h : WJ b s i bg out) (hi : (i : Int) = s.size) : WJ b s (i + 1) (i + 1) (out ++ [s.extract bg i]) := by
  obtain ⟨h1, h2, h3, h4, h5⟩ := h
  have hi : i = s.size := by omega
  refine ⟨by omega, Nat.le_refl _, by simp; omega, fun h => by omega, fun _ => ?_⟩
  have h6 := h4 (by omega)
  have hd : s.data.toList.drop i = [] := List.drop_eq_nil_of_le (by have : s.data.toList.length = s.size := rfl; omega)
  rw [hd] at h6
  refine map_data_inj ?_
  rw [List.map_append, List.map_cons, List.map_nil, ext_data]
  simp only [pieces, List.map_map]
  rw [h6]
  simp [cutP, pre, Function.comp_def, data_bs]
theorem drop_cons {l : List UInt8} {i : Nat} {c : UInt8} (h : l[i]? = some c) : l.drop i = c :: l.drop (i + 1) := by
  obtain ⟨hi, rfl⟩ := List.getElem?_eq_some_iff.1 h
  exact List.drop_eq_getElem_cons hi
theorem WJ.hit {b c : UInt8} {s : ByteArray} {i bg : Nat} {out : List ByteArray} (h : WJ b s i bg out) (hc : s.data.toList[i]? = some c) (hb : c = b) : WJ b s (i + 1) (i + 1) (out ++ [s.extract bg i]) := by
  obtain ⟨h1, h2, h3, h4, h5⟩ := h
  have hlt : i < s.size := (List.getElem?_eq_some_iff.1 hc).1
  refine ⟨by omega, Nat.le_refl _, by simp; omega, fun _ => ?_, fun h => by omega⟩
  rw [h4 (by omega), drop_cons hc, List.map_append, List.map_cons, List.map_nil, ext_data, show cutP b (c :: s.data.toList.drop (i + 1)) = [] :: cutP b (s.data.toList.drop (i + 1)) by rw [cutP, if_pos hb]]
  have e0 : (s.data.toList.drop (i + 1)).take (i + 1 - (i + 1)) = [] := by simp
  rw [e0, pre_nil (cutP_ne b _)]
  simp [pre]
theorem WJ.miss {b c : UInt8} {s : ByteArray} {i bg : Nat} {out : List ByteArray} (h : WJ b s i bg out) (hc : s.data.toList[i]? = some c) (hb : ¬ c = b) : WJ b s (i + 1) bg out := by
  obtain ⟨h1, h2, h3, h4, h5⟩ := h
  have hlt : i < s.size := (List.getElem?_eq_some_iff.1 hc).1
  refine ⟨by omega, by omega, by omega, fun _ => ?_, fun h => by omega⟩
  rw [h4 (by omega), drop_cons hc]
  conv => lhs; unfold cutP
  rw [if_neg hb, pre_cons]
  congr 2
  have e : i + 1 - bg = (i - bg) + 1 := by omega
  have hx : (s.data.toList.drop bg)[i - bg]? = some c := by rw [List.getElem?_drop, show bg + (i - bg) = i by omega]; exact hc
  obtain ⟨hj, hxx⟩ := List.getElem?_eq_some_iff.1 hx
  rw [e, List.take_succ_eq_append_getElem hj, hxx]
theorem pieces_sz (b : UInt8) (s : ByteArray) : ∀ p ∈ pieces b s, p.size ≤ s.size := by
  intro p hp
  obtain ⟨q, hq, rfl⟩ := List.mem_map.1 hp
  exact cutP_size b _ q hq
theorem ext_sz (s : ByteArray) (a b : Nat) (h : s.size ≤ maxLen) : (s.extract a b).size ≤ maxLen := by
  rw [ByteArray.size_extract]; omega
theorem WordsS (s : ByteArray) (b : UInt8) (hs : s.size ≤ 1048576) : Ct1 Tryd.prog 39 [.T s, .v (U b)] [.L (pieces b s)] :=
  .one (pieces b s) (rk := fun a => [.L a]) <| vc Tryd.func39 (fun hg => .e ByteArray <| .l (Γ := Nat × Nat × List ByteArray) (fun g => WJ b s g.1 g.2.1 g.2.2) (fun g => s.size + 1 - g.1) [0, 1] [] [] (fun g => [vR 5 0, vI 6 g.2.1, vI 7 g.1]) (fun g => [oR 0 9 g.2.2]) (0, 0, []) (h := WJ.start b s) fun g hJ t =>
    .s ((g.1 : Int) ≤ s.size)
      (fun hi => .s ((g.1 : Int) = s.size)
        (fun he => .pl (hk_cut (t := 9) (s := s) Tryd.underlying9 hJ.2.1 (by omega)) <| .a g.2.2 (s.extract g.2.1 g.1) 16 (hy := ext_sz s _ _ (by unfold maxLen; omega)) (h63 := by have := hJ.2.2.1; unfold maxLen; omega) (hby := by have := hJ.2.2.1; omega) <|
          .p g.1 1 (h := by unfold I64; omega) <| .p g.1 1 (h := by unfold I64; omega) <| .n t (g.1 + 1, g.1 + 1, g.2.2 ++ [s.extract g.2.1 g.1]) [] (hJ.stop he) (by dsimp only; omega))
        (fun he => .ex (p := fun c => s.data.toList[g.1]? = some c) ⟨_, List.getElem?_eq_getElem (show g.1 < s.data.toList.length by have : s.data.toList.length = s.size := rfl; omega)⟩ fun c hc =>
          .px (hk_ix (t := 9) (e := g.1) Tryd.underlying9 hc rfl) <| .pb .eql (hk_eq c b) <| .s (c = b)
            (fun hb => .pl (hk_cut (t := 9) (s := s) Tryd.underlying9 hJ.2.1 (by omega)) <| .a g.2.2 (s.extract g.2.1 g.1) 16 (hy := ext_sz s _ _ (by unfold maxLen; omega)) (h63 := by have := hJ.2.2.1; unfold maxLen; omega) (hby := by have := hJ.2.2.1; omega) <|
              .p g.1 1 (h := by unfold I64; omega) <| .p g.1 1 (h := by unfold I64; omega) <| .n t (g.1 + 1, g.1 + 1, g.2.2 ++ [s.extract g.2.1 g.1]) [] (hJ.hit hc hb) (by dsimp only; omega))
            (fun hb => .p g.1 1 (h := by unfold I64; omega) <| .n t (g.1 + 1, g.2.1, g.2.2) [] (hJ.miss hc hb) (by dsimp only; omega))))
      (fun hi => .rt g.2.2 ⟨hJ.2.2.2.2 (by have := hJ.1; omega), trivial⟩)) (by kernel_rfl)
/-! ### Edges -/
theorem edges_bad {ws : List ByteArray} {k : Nat} {w : ByteArray} (hw : ws[k]? = some w) (h : edgeOf w = none) : ([], false) = edgesR ws := by
  simp [edgesR, edgesOf_bad hw h]
theorem edges_all {ws : List ByteArray} {k : Nat} {l : List Edge} (h : edgesOf (ws.take k) = some l) (hk : ¬ (k : Int) < ws.length) : (l, true) = edgesR ws := by
  rw [List.take_of_length_le (by omega)] at h
  simp [edgesR, h]
def EJ (ws : List ByteArray) (k : Nat) (l : List Edge) : Prop := k ≤ ws.length ∧ edgesOf (ws.take k) = some l ∧ l.length = k
theorem EJ.next {ws : List ByteArray} {k : Nat} {l : List Edge} {w : ByteArray} {e : Edge} (h : EJ ws k l) (hw : ws[k]? = some w) (h2 : edgeOf w = some e) : EJ ws (k + 1) (l ++ [e]) := by
  obtain ⟨hk, rfl⟩ := List.getElem?_eq_some_iff.1 hw
  refine ⟨hk, ?_, by simp [h.2.2]⟩
  rw [List.take_succ_eq_append_getElem hk, edgesOf_app, h.2.1]
  simp [h2]
theorem edge_none {w : ByteArray} (h : (numsR (pieces 62 w)).2 = false) : edgeOf w = none := by
  unfold edgeOf
  cases hn : numsOf (pieces 62 w) with
  | none => rfl
  | some l => simp [numsR, hn] at h
theorem edge_many {w : ByteArray} (h : ¬ ((numsR (pieces 62 w)).1.length : Int) = 2) : edgeOf w = none := by
  unfold edgeOf
  cases hn : numsOf (pieces 62 w) with
  | none => rfl
  | some l =>
    simp only [numsR, hn, Option.getD_some] at h
    match l, h with
    | [], _ => rfl
    | [_], _ => rfl
    | [_, _], h => exact absurd rfl h
    | _ :: _ :: _ :: _, _ => rfl
theorem edge_two {w : ByteArray} {a b : Int} (h0 : (numsR (pieces 62 w)).2 = true) (h : ((numsR (pieces 62 w)).1.length : Int) = 2) (ha : (numsR (pieces 62 w)).1[0]? = some a) (hb : (numsR (pieces 62 w)).1[1]? = some b) : edgeOf w = some ⟨a, b⟩ := by
  unfold edgeOf
  cases hn : numsOf (pieces 62 w) with
  | none => simp [numsR, hn] at h0
  | some l =>
    simp only [numsR, hn, Option.getD_some] at h ha hb
    match l, h, ha, hb with
    | [x, y], _, ha, hb => simp at ha hb; subst ha hb; rfl
    | [], h, _, _ => simp at h
    | [_], h, _, _ => simp at h
    | _ :: _ :: _ :: _, h, _, _ => simp at h; omega
theorem pieces_le (b : UInt8) (s : ByteArray) : (pieces b s).length ≤ s.size + 1 := by
  simp only [pieces, List.length_map, cutP_count]
  have : s.data.toList.count b ≤ s.data.toList.length := List.count_le_length
  have : s.data.toList.length = s.size := rfl
  omega
theorem EdgesS (ws : List ByteArray) (hl : ws.length ≤ 1048577) (hs : ∀ w ∈ ws, w.size ≤ 1048576) : Ct1 Tryd.prog 41 [.L ws] [.L (edgesR ws).1, .B (edgesR ws).2] :=
  .one (edgesR ws) (rk := fun a => [.L a.1, .B a.2]) <| vc Tryd.func41 (fun hg => .e Edge <| .l (Γ := Nat × List Edge) (fun g => EJ ws g.1 g.2) (fun g => ws.length - g.1) [0] [] [0] (fun g => [vR 4 1, vI 5 g.1]) (fun g => [oR 1 75 g.2]) (0, []) (h := ⟨Nat.zero_le _, rfl, rfl⟩) fun g hJ t =>
    .s ((g.1 : Int) < ws.length)
      (fun h => .x ws g.1 (h := by omega) fun w hw _ => .c Tryd.func39 (WordsS w 62 (hs w (List.mem_of_getElem? hw))) fun _ =>
        .c Tryd.func40 (NumsS (pieces 62 w) (by have := pieces_le 62 w; have := hs w (List.mem_of_getElem? hw); omega)) fun _ => .v (numsR (pieces 62 w)).2
        (fun h2 => .e Edge <| .rt ([], false) ⟨edges_bad hw (edge_none h2), trivial⟩)
        (fun h2 => .u (((numsR (pieces 62 w)).1.length : Int) = 2)
          (fun hn => .e Edge <| .rt ([], false) ⟨edges_bad hw (edge_many hn), trivial⟩)
          (fun hn => .x (numsR (pieces 62 w)).1 0 (h := by omega) fun a ha ga => .x (numsR (pieces 62 w)).1 1 (h := by omega) fun b hb gb =>
            .a g.2 (⟨a, b⟩ : Edge) 16 (hy := (show Edge.ok _ from ⟨ga, gb⟩)) (h63 := by have := hJ.2.2; unfold maxLen; omega) (hby := by have := hJ.2.2; omega) <| .p g.1 1 (h := by unfold I64; omega) <| .n t (g.1 + 1, g.2 ++ [⟨a, b⟩]) [] (hJ.next hw (edge_two h2 hn ha hb)) (by dsimp only; omega))))
      (fun h => .rt (g.2, true) ⟨edges_all hJ.2.1 h, trivial⟩)) (by kernel_rfl)
end Go.Proofs.YtchnllpegfbleaaDoor

/-
  Numbers that are read one by one. Theory alone.
-/
namespace Go.Proofs.YtchnllpegfbleaaDoor
set_option linter.unusedSimpArgs false
set_option linter.unusedVariables false
set_option maxRecDepth 100000
open Go.RowKit
structure Numb where
  list : List Int
  bad : Bool
instance : Shape Numb where
  size := 2
  C := fun w cs x fp => ∃ (v1 : Value) (f1 : List Nat), cs = [v1, .bool x.bad] ∧ Sl w v1 x.list f1 ∧ fp = f1
  len := fun ⟨v1, f1, h, h1, hfp⟩ => by rw [h]; rfl
  loc := fun hs hk ⟨v1, f1, h, h1, hfp⟩ => ⟨v1, f1, h, h1.loc (fun b hb => hk b (by rw [hfp]; simp [hb])) hs, hfp⟩
  one := fun ⟨v1, f1, h, h1, hfp⟩ u hu => by
    obtain ⟨ao0, cap0, rfl, _⟩ := h1
    subst h
    simp at hu
    rcases hu with rfl | rfl <;> rfl
  lt := fun ⟨v1, f1, h, h1, hfp⟩ b hb => by
    subst hfp
    exact h1.lt b hb
instance : Dsh Numb where
  lv := fun x => [lS x.list, .v (.bool x.bad)]
  good := fun _ => True
  out := fun {w cs x fp} h => by
    obtain ⟨v0, f0, hcs, h0, hfp⟩ := h
    refine ⟨trivial, ?_⟩
    rw [hcs, hfp]
    exact ⟨f0, [], h0, ⟨rfl, rfl⟩, by simp⟩
  inn := fun hg h => by
    obtain ⟨c0, r0, f0, g0, e0, h0, z0, p0⟩ := cells_s h
    obtain ⟨r1, e1, z1⟩ := cells_v z0
    obtain ⟨e2, p1⟩ := cells_n z1
    subst e2 e1 e0 p1 p0
    exact ⟨c0, f0, rfl, h0, by simp⟩
end Go.Proofs.YtchnllpegfbleaaDoor

/-
  Deeds read from lines, of the program.
-/
namespace Go.Proofs.YtchnllpegfbleaaDoor
set_option linter.unusedSimpArgs false
set_option linter.unusedVariables false
set_option maxRecDepth 100000
open Go.RowKit Go.Lib
def nextR (x : Numb) : Numb × Int := (⟨x.list.drop 1, x.bad || x.list.isEmpty⟩, x.list.headD 0)
theorem NextD (x : Numb) : Cm Tryd.prog 45 [] inferInstance x (fun _ : Unit => True) (fun _ => (nextR x).1) (fun _ => [.I (nextR x).2]) :=
  Cm.one (nextR x) (y := fun a => a.1) (rk := fun a => [.I a.2]) <| vcm Tryd.func45 (fun hg hn => .s ((x.list.length : Int) = 0)
    (fun h => .rt (⟨x.list, true⟩, 0) ⟨by
      have hl : x.list = [] := List.eq_nil_of_length_eq_zero (by omega)
      simp [nextR, hl], trivial⟩)
    (fun h => .x x.list 0 (h := by omega) fun z hz gz => .dq inferInstance plain_int x.list 1 (by omega) 1 rfl <| .rt (⟨x.list.drop 1, x.bad⟩, z) ⟨by
      cases hl : x.list with
      | nil => rw [hl] at h; simp at h
      | cons a l => rw [hl] at hz; simp at hz; simp [nextR, hl, hz], trivial⟩)) (by kernel_rfl)
section
variable {P : Program} {A : Type} {R : A → Prop}
end
/-- A deed's cells, its edges beside. -/
abbrev dc (k : Int) (es : Tc) : List Tc := [.v (I k), .v (I 0), .v (I 0), .v (I 0), .v (I 0), .v (I 0), es, .v (I 0), .v (I 0), .v (I 0), .v (I 0)]
theorem kindUp_t {w : ByteArray} {n : Nat} (h : deedW ((n : Int) + 1) = w) : (n : Int) + 1 = kindUp w (n + 1) := by rw [kindUp, if_pos h]
theorem kindUp_f {w : ByteArray} {n : Nat} {k : Int} (hk : k = kindUp w n) (h : ¬ deedW ((n : Int) + 1) = w) : k = kindUp w (n + 1) := by rw [kindUp, if_neg h]; exact hk
theorem head_w {line w : ByteArray} (hw : (pieces 32 line)[0]? = some w) : (pieces 32 line).headD (bs []) = w := by
  cases h : pieces 32 line with
  | nil => rw [h] at hw; cases hw
  | cons a l => rw [h] at hw; simpa using hw
theorem rd_none {line : ByteArray} (h : getI line = none) : (deed0, false) = readDeed line := by rw [readDeed, h]; rfl
theorem rd_empty {line : ByteArray} {d : Deed} (h : getI line = some d) (h2 : deedLine d = bs []) : (deed0, false) = readDeed line := by
  rw [readDeed, h]
  unfold rdOf
  simp only
  by_cases hl : line = bs []
  · rw [if_pos (.inl hl)]
  · rw [if_pos (.inr (by rw [h2]; exact fun e => hl e.symm))]
theorem rd_ne {line : ByteArray} {d : Deed} (h : getI line = some d) (h2 : ¬ deedLine d = line) : (deed0, false) = readDeed line := by
  rw [readDeed, h]
  unfold rdOf
  simp only
  rw [if_pos (.inr h2)]
theorem rd_yes {line : ByteArray} {d : Deed} (h : getI line = some d) (h1 : ¬ deedLine d = bs []) (h2 : deedLine d = line) : (d, true) = readDeed line := by
  rw [readDeed, h]
  unfold rdOf
  simp only
  rw [if_neg]
  rintro (e | e)
  · exact h1 (h2.trans e)
  · exact e h2
theorem deed0_ok : deed0.ok := ⟨i64z, i64z, ⟨i64z, i64z, i64z, i64z⟩, i64z, i64z, i64z, i64z⟩
theorem cut_sz (w : ByteArray) : (bs (Lib.cut w.data.toList [62]).1).size ≤ w.size ∧ (bs (Lib.cut w.data.toList [62]).2.1).size ≤ w.size := by
  have hs : w.data.toList.length = w.size := rfl
  have key : ∀ l : List UInt8, (bs l).size = l.length := fun l => rfl
  rw [key, key, ← hs]
  unfold Lib.cut
  split
  · simp [List.length_take, List.length_drop]; omega
  · simp
theorem two_sz {w : ByteArray} (h : w.size ≤ 1048576) : ∀ x ∈ [bs (Lib.cut w.data.toList [62]).1, bs (Lib.cut w.data.toList [62]).2.1], x.size ≤ 1048576 := by
  have := cut_sz w
  intro x hx
  simp only [List.mem_cons, List.not_mem_nil, or_false] at hx
  rcases hx with rfl | rfl <;> omega
theorem two_ok {w : ByteArray} (h : w.size ≤ 1048576) : ∀ x ∈ [bs (Lib.cut w.data.toList [62]).1, bs (Lib.cut w.data.toList [62]).2.1], (inferInstance : Dsh ByteArray).good x := fun x hx => by
  have := two_sz h x hx
  show x.size ≤ maxLen
  unfold maxLen; omega
def two (w : ByteArray) : List ByteArray := [bs (Lib.cut w.data.toList [62]).1, bs (Lib.cut w.data.toList [62]).2.1]
theorem edge_no {w : ByteArray} (h : (numsR (two w)).2 = false) : edgeOf w = none := by
  rw [edgeOf_cut]
  cases hn : numsOf [bs (Lib.cut w.data.toList [62]).1, bs (Lib.cut w.data.toList [62]).2.1] with
  | none => rfl
  | some l => simp [numsR, two, hn] at h
theorem edge_len {w : ByteArray} (h : (numsR (two w)).2 = true) : (numsR (two w)).1.length = 2 := by
  cases hn : numsOf (two w) with
  | none => simp [numsR, hn] at h
  | some l => simp only [numsR, hn, Option.getD_some]; exact numsOf_len hn
theorem edge_yes {w : ByteArray} {a b : Int} (h : (numsR (two w)).2 = true) (ha : (numsR (two w)).1[0]? = some a) (hb : (numsR (two w)).1[1]? = some b) : edgeOf w = some ⟨a, b⟩ := by
  rw [edgeOf_cut]
  have hl := edge_len h
  cases hn : numsOf (two w) with
  | none => simp [numsR, hn] at h
  | some l =>
    simp only [numsR, hn, Option.getD_some] at ha hb hl
    show (match numsOf (two w) with | some [a, b] => some (⟨a, b⟩ : Edge) | _ => none) = _
    rw [hn]
    match l, hl with
    | [x, y], _ => simp at ha hb; subst ha hb; rfl
theorem drop15 {α : Type} (l : List α) : (l.drop 1).drop 5 = l.drop 6 := by rw [List.drop_drop]
theorem take15 {α : Type} (l : List α) : (l.drop 1).take 5 = (l.take 6).drop 1 := by rw [List.drop_take]
theorem getI_short {line w : ByteArray} (hw : (pieces 32 line)[0]? = some w) (h1 : kindUp w 8 = 1) (h : (((pieces 32 line).drop 1).length : Int) < 5) : getI line = none := by
  rw [List.length_drop] at h
  unfold getI
  simp only
  rw [head_w hw, if_pos h1, if_pos (by omega)]
theorem getI_bade {line w x : ByteArray} {k : Nat} (hw : (pieces 32 line)[0]? = some w) (h1 : kindUp w 8 = 1) (hx : (((pieces 32 line).drop 1).drop 5)[k]? = some x) (h : edgeOf x = none) : getI line = none := by
  rw [drop15] at hx
  unfold getI
  simp only
  rw [head_w hw, if_pos h1, edgesOf_bad hx h]
  split <;> rfl
theorem numsR_none {ws : List ByteArray} (h : (numsR ws).2 = false) : numsOf ws = none := by
  cases hn : numsOf ws with
  | none => rfl
  | some l =>
    have h2 : (numsOf ws).isSome = false := h
    rw [hn] at h2; cases h2
theorem numsR_some {ws : List ByteArray} (h : (numsR ws).2 = true) : numsOf ws = some (numsR ws).1 := by
  cases hn : numsOf ws with
  | none =>
    have h2 : (numsOf ws).isSome = true := h
    rw [hn] at h2; cases h2
  | some l =>
    show some l = some ((numsOf ws).getD [])
    rw [hn]; rfl
theorem getI_badn {line w : ByteArray} (hw : (pieces 32 line)[0]? = some w) (h1 : kindUp w 8 = 1) (h : (numsR (((pieces 32 line).drop 1).take 5)).2 = false) : getI line = none := by
  rw [take15] at h
  unfold getI
  simp only
  rw [head_w hw, if_pos h1, numsR_none h]
  split
  · rfl
  · cases edgesOf ((pieces 32 line).drop 6) <;> rfl
theorem getI_badk {line w : ByteArray} (hw : (pieces 32 line)[0]? = some w) (h1 : ¬ kindUp w 8 = 1) (h : (numsR ((pieces 32 line).drop 1)).2 = false) : getI line = none := by
  unfold getI
  simp only
  rw [head_w hw, if_neg h1, numsR_none h]; rfl
theorem getI_fill {line w : ByteArray} {d : Deed} (hw : (pieces 32 line)[0]? = some w) (h1 : ¬ kindUp w 8 = 1) (h : (numsR ((pieces 32 line).drop 1)).2 = true) (hd : d = fillI (kindUp w 8) (numsR ((pieces 32 line).drop 1)).1) : getI line = some d := by
  unfold getI
  simp only
  rw [head_w hw, if_neg h1, numsR_some h, hd]; rfl
theorem getI_sub {line w : ByteArray} {d : Deed} {es : List Edge} {k : Nat} (hw : (pieces 32 line)[0]? = some w) (h1 : kindUp w 8 = 1) (h5 : ¬ (((pieces 32 line).drop 1).length : Int) < 5) (he : edgesOf ((((pieces 32 line).drop 1).drop 5).take k) = some es) (hk : ¬ (k : Int) < (((pieces 32 line).drop 1).drop 5).length) (h : (numsR (((pieces 32 line).drop 1).take 5)).2 = true) (hd : d = submitOf (numsR (((pieces 32 line).drop 1).take 5)).1 es) : getI line = some d := by
  rw [List.take_of_length_le (by omega), drop15] at he
  rw [take15] at h hd
  rw [List.length_drop] at h5
  unfold getI
  simp only
  rw [head_w hw, if_pos h1, if_neg (by omega), he, numsR_some h, hd]
section
variable {A : Type} {R : A → Prop}
abbrev rdP (line : ByteArray) (a : Deed × Bool) : Prop := a = readDeed line ∧ rgd [Rk.S a.1, Rk.B a.2]
noncomputable def cmN (x : Numb) (k : D Tryd.prog R) : D Tryd.prog R := .cm 45 Tryd.func45 (NextD x) trivial fun _ _ _ _ => k
noncomputable def fin (line : ByteArray) (d : Deed) (hd : getI line = some d) : D Tryd.prog (fun a => a = readDeed line ∧ rgd [Rk.S a.1, Rk.B a.2]) :=
  .c Tryd.func18 (DeedLineD d) (hg := ⟨(getI_ok hd).1, trivial⟩) fun _ => .s (deedLine d = bs [])
    (fun h => .rt (deed0, false) ⟨rd_empty hd h, deed0_ok, trivial⟩)
    (fun h => .u (deedLine d = line)
      (fun h2 => .rt (deed0, false) ⟨rd_ne hd h2, deed0_ok, trivial⟩)
      (fun h2 => .rt (d, true) ⟨rd_yes hd h h2, (getI_ok hd).1, trivial⟩))
end
theorem ReadDeedI (line : ByteArray) (hl : line.size ≤ 1048576) : Cg Tryd.prog 21 (some gD) [.T line] (fun _ : Unit => True) (fun _ => [.S (readDeed line).1, .B (readDeed line).2]) :=
  .one (readDeed line) (rk := fun a => [.S a.1, .B a.2]) <| vcg (some gD) Tryd.func21 (fun hg => .c Tryd.func42 (SplitD line hl) fun _ =>
    .ex (p := fun w => (pieces 32 line)[0]? = some w) ⟨_, List.getElem?_eq_getElem (pieces_pos 32 line)⟩ fun w hw =>
    .l (Γ := Nat × Int) (fun g => g.1 ≤ 8 ∧ g.2 = kindUp w g.1) (fun g => 8 - g.1) [0, 2, 4, 5] [0, 1] [] (fun g => [vI 6 ((g.1 : Int) + 1)]) (fun g => [oB 2 (dc g.2 (.v (.slice none 0 0)))]) (0, 0) (h := ⟨by omega, rfl⟩) fun g hJ t =>
    .s ((g.1 : Int) + 1 ≤ 8)
      (fun h => .y hw fun _ => .c Tryd.func37 (DeedWordD ((g.1 : Int) + 1) (by omega)) fun _ => .s (deedW ((g.1 : Int) + 1) = w)
        (fun h2 => .p ((g.1 : Int) + 1) 1 (h := by unfold I64; omega) <| .n t (g.1 + 1, (g.1 : Int) + 1) [] ⟨by dsimp only; omega, kindUp_t h2⟩ (by dsimp only; omega))
        (fun h2 => .p ((g.1 : Int) + 1) 1 (h := by unfold I64; omega) <| .n t (g.1 + 1, g.2) [] ⟨by dsimp only; omega, kindUp_f hJ.2 h2⟩ (by dsimp only; omega)))
      (fun h => .dp inferInstance (pieces 32 line) 1 (pieces_pos 32 line) 1 rfl <|
        let hk : g.2 = kindUp w 8 := by have h8 : g.1 = 8 := by { have := hJ.1; omega }; rw [← h8]; exact hJ.2
        .s (g.2 = 1)
        (fun h1 => let h1' : kindUp w 8 = 1 := hk.symm.trans h1
          .s ((((pieces 32 line).drop 1).length : Int) < 5)
          (fun h5 => .rt (deed0, false) ⟨rd_none (getI_short hw h1' h5), deed0_ok, trivial⟩)
          (fun h5 => .dp inferInstance ((pieces 32 line).drop 1) 5 (by omega) 5 rfl <| .r0 (α := Edge) inferInstance 75 <|
            .l (Γ := Nat × List Edge) (fun e => EJ (((pieces 32 line).drop 1).drop 5) e.1 e.2) (fun e => (((pieces 32 line).drop 1).drop 5).length - e.1) [0, 2, 5, 7, 43, 44] [0, 1] [2000003, 2000004] (fun e => [vI 45 e.1]) (fun e => [oR 5 75 e.2, oB 2 (dc g.2 (.r 5))]) (0, []) (h := ⟨Nat.zero_le _, rfl, rfl⟩) fun e hE te =>
            .s ((e.1 : Int) < (((pieces 32 line).drop 1).drop 5).length)
              (fun hi => .rd inferInstance 3 1 (pieces 32 line) 1 (pieces_pos 32 line) <| .rd inferInstance 4 3 ((pieces 32 line).drop 1) 5 (by omega) <|
                .x (((pieces 32 line).drop 1).drop 5) e.1 (h := by omega) fun x hx hgx =>
                let hxs : x.size ≤ 1048576 := Nat.le_trans (pieces_sz 32 line x (List.mem_of_mem_drop (List.mem_of_mem_drop (List.mem_of_getElem? hx)))) hl
                .c Tryd.func43 (CutD x hxs) fun _ => .li (inferInstance : Dsh ByteArray) 58 (two x) (by simp [two]) (by simp [two]) (two_ok hxs) <|
                .c Tryd.func44 (ReadNumbersI (two x) (by simp [two]) (two_sz hxs)) fun _ => .v (numsR (two x)).2
                  (fun hb => .rt (deed0, false) ⟨rd_none (getI_bade hw h1' hx (edge_no hb)), deed0_ok, trivial⟩)
                  (fun hb => .x (numsR (two x)).1 0 (h := by have := edge_len hb; omega) fun a ha ga => .x (numsR (two x)).1 1 (h := by have := edge_len hb; omega) fun b hb2 gb =>
                    .a e.2 (⟨a, b⟩ : Edge) 16 (hy := (show Edge.ok _ from ⟨ga, gb⟩)) (h63 := by have := hE.2.2; have := hE.1; have := pieces_le 32 line; simp only [List.length_drop] at *; unfold maxLen; omega) (hby := by have := hE.2.2; have := hE.1; have := pieces_le 32 line; simp only [List.length_drop] at *; omega) <|
                    .p e.1 1 (h := by have := hE.1; have := pieces_le 32 line; simp only [List.length_drop] at *; unfold I64; omega) <| .n te (e.1 + 1, e.2 ++ [⟨a, b⟩]) [] (hE.next hx (edge_yes hb ha hb2)) (by dsimp only; omega)))
              (fun hi => .rd inferInstance 3 1 (pieces 32 line) 1 (pieces_pos 32 line) <| .tk inferInstance ((pieces 32 line).drop 1) 5 (by omega) 5 rfl <|
                .c Tryd.func44 (ReadNumbersI (((pieces 32 line).drop 1).take 5) (by simp only [List.length_take]; omega) (fun y hy => Nat.le_trans (pieces_sz 32 line y (List.mem_of_mem_drop (List.mem_of_mem_take hy))) hl)) fun _ => .v (numsR (((pieces 32 line).drop 1).take 5)).2
                  (fun hb => .rt (deed0, false) ⟨rd_none (getI_badn hw h1' hb), deed0_ok, trivial⟩)
                  (fun hb => let x0 : Numb := ⟨(numsR (((pieces 32 line).drop 1).take 5)).1, false⟩
                    let x1 := (nextR x0).1
                    let x2 := (nextR x1).1
                    let x3 := (nextR x2).1
                    let x4 := (nextR x3).1
                    .kt (g.2 = 1) h1 <| cmN x0 <| cmN x1 <| cmN x2 <| cmN x3 <| cmN x4 <| fin line ⟨g.2, (nextR x0).2, ⟨(nextR x1).2, (nextR x2).2, (nextR x3).2, (nextR x4).2, e.2⟩, 0, 0, 0, 0⟩
                      (getI_sub hw h1' h5 hE.2.1 hi hb (by rw [h1]; simp [submitOf, x4, x3, x2, x1, x0, nextR, List.drop_drop]))))))
        (fun h1 => let h1' : ¬ kindUp w 8 = 1 := fun h => h1 (hk.trans h)
          .c Tryd.func44 (ReadNumbersI ((pieces 32 line).drop 1) (by have := pieces_le 32 line; simp only [List.length_drop]; omega) (fun y hy => Nat.le_trans (pieces_sz 32 line y (List.mem_of_mem_drop hy)) hl)) fun _ => .v (numsR ((pieces 32 line).drop 1)).2
            (fun hb => .rt (deed0, false) ⟨rd_none (getI_badk hw h1' hb), deed0_ok, trivial⟩)
            (fun hb => let x0 : Numb := ⟨(numsR ((pieces 32 line).drop 1)).1, false⟩
              let x1 := (nextR x0).1
              let x2 := (nextR x1).1
              .kf (g.2 = 1) h1 <| .s (g.2 = 2)
                (fun h2 => cmN x0 <| cmN x1 <| fin line ⟨g.2, 0, ⟨0, 0, 0, 0, []⟩, 0, 0, (nextR x0).2, (nextR x1).2⟩ (getI_fill hw h1' hb (by rw [← hk, fillI, if_pos h2]; rfl)))
                (fun h2 => .s (g.2 = 3)
                  (fun h3 => cmN x0 <| cmN x1 <| cmN x2 <| fin line ⟨g.2, (nextR x0).2, ⟨0, 0, 0, 0, []⟩, (nextR x1).2, (nextR x2).2, 0, 0⟩ (getI_fill hw h1' hb (by rw [← hk, fillI, if_neg h2, if_pos (.inl h3)]; rfl)))
                  (fun h3 => .s (g.2 = 4)
                    (fun h4 => cmN x0 <| cmN x1 <| cmN x2 <| fin line ⟨g.2, (nextR x0).2, ⟨0, 0, 0, 0, []⟩, (nextR x1).2, (nextR x2).2, 0, 0⟩ (getI_fill hw h1' hb (by rw [← hk, fillI, if_neg h2, if_pos (.inr h4)]; rfl)))
                    (fun h4 => .s (g.2 = 6)
                      (fun h6 => cmN x0 <| fin line ⟨g.2, (nextR x0).2, ⟨0, 0, 0, 0, []⟩, 0, 0, 0, 0⟩ (getI_fill hw h1' hb (by rw [← hk, fillI, if_neg h2, if_neg (not_or.2 ⟨h3, h4⟩), if_pos (.inl h6)]; rfl)))
                      (fun h6 => .s (g.2 = 7)
                        (fun h7 => cmN x0 <| fin line ⟨g.2, (nextR x0).2, ⟨0, 0, 0, 0, []⟩, 0, 0, 0, 0⟩ (getI_fill hw h1' hb (by rw [← hk, fillI, if_neg h2, if_neg (not_or.2 ⟨h3, h4⟩), if_pos (.inr h7)]; rfl)))
                        (fun h7 => fin line ⟨g.2, 0, ⟨0, 0, 0, 0, []⟩, 0, 0, 0, 0⟩ (getI_fill hw h1' hb (by rw [← hk, fillI, if_neg h2, if_neg (not_or.2 ⟨h3, h4⟩), if_neg (not_or.2 ⟨h6, h7⟩)]; rfl))))))))))) (by kernel_rfl)
end Go.Proofs.YtchnllpegfbleaaDoor
