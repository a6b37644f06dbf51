/-
  Texts of this claim, laid behind one another: RdY, RdC, To, Sz, Text, MkA, MkD, ReadDeedLaw, Open, Opens.
-/
import Derived.Test.YtchnllpegfbleaaDoorM05
import Derived.ProofKit
import Derived.OpenShut
/-
  Deeds read from lines, of the reference.
-/
namespace Go.Proofs.YtchnllpegfbleaaDoor
set_option linter.unusedSimpArgs false
set_option linter.unusedVariables false
set_option maxRecDepth 100000
open Go.RowKit Go.Lib
noncomputable def readS (line : ByteArray) : Deed × Bool := if 20000 < line.size then (deed0, false) else rdOf line (getS line)
theorem rs_long {line : ByteArray} (h : (20000 : Int) < line.size) : (deed0, false) = readS line := by
  unfold readS; rw [if_pos (by omega)]
theorem rs_none {line : ByteArray} (h : getS line = none) : (deed0, false) = readS line := by
  unfold readS; rw [h]; split <;> rfl
theorem rs_some {line : ByteArray} {d : Deed} (hl : ¬ (20000 : Int) < line.size) (h : getS line = some d) : readS line = if line = bs [] ∨ deedLine d ≠ line then (deed0, false) else (d, true) := by
  unfold readS; rw [if_neg (by omega), h]; rfl
theorem rs_ne {line : ByteArray} {d : Deed} (hl : ¬ (20000 : Int) < line.size) (h : getS line = some d) (h2 : ¬ deedLine d = line) : (deed0, false) = readS line := by
  rw [rs_some hl h, if_pos (.inr h2)]
theorem rs_empty {line : ByteArray} {d : Deed} (hl : ¬ (20000 : Int) < line.size) (h : getS line = some d) (h2 : line = bs []) : (deed0, false) = readS line := by
  rw [rs_some hl h, if_pos (.inl h2)]
theorem rs_yes {line : ByteArray} {d : Deed} (hl : ¬ (20000 : Int) < line.size) (h : getS line = some d) (h1 : ¬ line = bs []) (h2 : deedLine d = line) : (d, true) = readS line := by
  rw [rs_some hl h, if_neg]
  rintro (e | e)
  · exact h1 e
  · exact e h2
def words9 : List ByteArray := [(⟨#[]⟩ : ByteArray), (⟨#[115, 117, 98, 109, 105, 116]⟩ : ByteArray), (⟨#[112, 111, 108, 108]⟩ : ByteArray), (⟨#[100, 111, 110, 101]⟩ : ByteArray), (⟨#[102, 97, 105, 108]⟩ : ByteArray), (⟨#[116, 105, 99, 107]⟩ : ByteArray), (⟨#[99, 97, 110, 99, 101, 108]⟩ : ByteArray), (⟨#[102, 111, 114, 103, 101, 116]⟩ : ByteArray), (⟨#[115, 116, 97, 114, 116]⟩ : ByteArray)]
theorem words9_ok : ∀ y ∈ words9, (inferInstance : Dsh ByteArray).good y := by
  intro y hy
  show y.size ≤ maxLen
  simp only [words9, List.mem_cons, List.not_mem_nil, or_false] at hy
  rcases hy with rfl | rfl | rfl | rfl | rfl | rfl | rfl | rfl | rfl <;> decide
theorem words9_at {n : Nat} (h : n < 8) : words9[n + 1]? = some (deedW ((n : Int) + 1)) := by
  match n, h with
  | 0, _ => rfl
  | 1, _ => rfl
  | 2, _ => rfl
  | 3, _ => rfl
  | 4, _ => rfl
  | 5, _ => rfl
  | 6, _ => rfl
  | 7, _ => rfl
  | n + 8, h => omega
theorem edgesR_none {ws : List ByteArray} (h : (edgesR ws).2 = false) : edgesOf ws = none := by
  cases hn : edgesOf ws with
  | none => rfl
  | some l =>
    have h2 : (edgesOf ws).isSome = false := h
    rw [hn] at h2; cases h2
theorem edgesR_some {ws : List ByteArray} (h : (edgesR ws).2 = true) : edgesOf ws = some (edgesR ws).1 := by
  cases hn : edgesOf ws with
  | none =>
    have h2 : (edgesOf ws).isSome = true := h
    rw [hn] at h2; cases h2
  | some l =>
    show some l = some ((edgesOf ws).getD [])
    rw [hn]; rfl
/-- Where the edges begin. -/
def atOf (k : Int) (n : Nat) : Nat := if k = 1 ∧ 6 < n then 6 else n
structure Cut9 (line w : ByteArray) (k : Int) (at_ : Nat) : Prop where
  hw : (pieces 32 line)[0]? = some w
  hk : k = kindUp w 8
  lo : 1 ≤ at_
  hi : at_ ≤ (pieces 32 line).length
  tk : k = 1 → (pieces 32 line).take at_ = (pieces 32 line).take 6 ∧ (pieces 32 line).drop at_ = (pieces 32 line).drop 6
  all : ¬ k = 1 → at_ = (pieces 32 line).length
theorem cut_a {line w : ByteArray} {k : Int} (hw : (pieces 32 line)[0]? = some w) (hk : k = kindUp w 8) (h1 : k = 1) (h6 : (6 : Int) < (pieces 32 line).length) : Cut9 line w k 6 :=
  ⟨hw, hk, by omega, by omega, fun _ => ⟨rfl, rfl⟩, fun h => absurd h1 h⟩
theorem cut_b {line w : ByteArray} {k : Int} (hw : (pieces 32 line)[0]? = some w) (hk : k = kindUp w 8) (h6 : ¬ (6 : Int) < (pieces 32 line).length) : Cut9 line w k (pieces 32 line).length :=
  ⟨hw, hk, pieces_pos 32 line, Nat.le_refl _, fun _ => ⟨by rw [List.take_of_length_le (Nat.le_refl _), List.take_of_length_le (by omega)], by rw [List.drop_eq_nil_of_le (Nat.le_refl _), List.drop_eq_nil_of_le (by omega)]⟩, fun _ => rfl⟩
theorem cut_c {line w : ByteArray} {k : Int} (hw : (pieces 32 line)[0]? = some w) (hk : k = kindUp w 8) (h1 : ¬ k = 1) : Cut9 line w k (pieces 32 line).length :=
  ⟨hw, hk, pieces_pos 32 line, Nat.le_refl _, fun h => absurd h h1, fun _ => rfl⟩
section
variable {line w : ByteArray} {k : Int} {a : Nat}
theorem Cut9.badn (c : Cut9 line w k a) (h : (numsR (((pieces 32 line).take a).drop 1)).2 = false) : getS line = none := by
  have hn := numsR_none h
  unfold getS
  simp only
  rw [head_w c.hw, ← c.hk]
  by_cases h1 : k = 1
  · rw [if_pos h1]
    rw [(c.tk h1).1] at hn
    rw [hn]
  · rw [if_neg h1]
    rw [c.all h1, List.take_of_length_le (Nat.le_refl _)] at hn
    rw [hn]; rfl
theorem Cut9.bade (c : Cut9 line w k a) (h : (edgesR ((pieces 32 line).drop a)).2 = false) : getS line = none := by
  have hn := edgesR_none h
  unfold getS
  simp only
  rw [head_w c.hw, ← c.hk]
  by_cases h1 : k = 1
  · rw [if_pos h1]
    rw [(c.tk h1).2] at hn
    rw [hn]
    cases numsOf (((pieces 32 line).take 6).drop 1) <;> rfl
  · rw [c.all h1, List.drop_eq_nil_of_le (Nat.le_refl _)] at hn
    cases hn
theorem Cut9.good1 (c : Cut9 line w k a) (h1 : k = 1) (h : (numsR (((pieces 32 line).take a).drop 1)).2 = true) (he : (edgesR ((pieces 32 line).drop a)).2 = true) {d : Deed} (hd : d = if (numsR (((pieces 32 line).take a).drop 1)).1.length = 5 then submitOf (numsR (((pieces 32 line).take a).drop 1)).1 (edgesR ((pieces 32 line).drop a)).1 else ofKind 1) : getS line = some d := by
  have hn := numsR_some h
  have he := edgesR_some he
  unfold getS
  simp only
  rw [head_w c.hw, ← c.hk, if_pos h1]
  rw [(c.tk h1).1] at hn hd
  rw [(c.tk h1).2] at he hd
  rw [hn, he, hd]
theorem Cut9.goodk (c : Cut9 line w k a) (h1 : ¬ k = 1) (h : (numsR (((pieces 32 line).take a).drop 1)).2 = true) {d : Deed} (hd : d = fillS k (numsR (((pieces 32 line).take a).drop 1)).1) : getS line = some d := by
  have hn := numsR_some h
  unfold getS
  simp only
  rw [head_w c.hw, ← c.hk, if_neg h1]
  have e : (pieces 32 line).take a = pieces 32 line := by rw [c.all h1, List.take_of_length_le (Nat.le_refl _)]
  rw [e] at hn hd
  rw [hn, hd]; rfl
end
theorem headD_at {n : List Int} {k : Nat} {a : Int} (h : n[k]? = some a) : (n.drop k).headD 0 = a := by
  obtain ⟨hk, rfl⟩ := List.getElem?_eq_some_iff.1 h
  rw [List.drop_eq_getElem_cons hk]; rfl
theorem headD_0 {n : List Int} {a : Int} (h : n[0]? = some a) : n.headD 0 = a := by
  have := headD_at h
  simpa using this
theorem getS_ok {line w : ByteArray} {k : Int} {a : Nat} {d : Deed} (h : d.ok) : d.ok := h
noncomputable def finS (line : ByteArray) (d : Deed) (hl : ¬ (20000 : Int) < line.size) (hd : getS line = some d) (hok : d.ok) : D Tryd.prog (fun a => a = readS line ∧ rgd [Rk.S a.1, Rk.B a.2]) :=
  .c Tryd.func16 (DeedLineSD d) (hg := ⟨hok, trivial⟩) fun _ => .u (deedLine d = line)
    (fun h => .rt (deed0, false) ⟨rs_ne hl hd h, deed0_ok, trivial⟩)
    (fun h => .s (line = bs [])
      (fun h2 => .rt (deed0, false) ⟨rs_empty hl hd h2, deed0_ok, trivial⟩)
      (fun h2 => .rt (d, true) ⟨rs_yes hl hd h2 h, hok, trivial⟩))
theorem k64 {w : ByteArray} {k : Int} (h : k = kindUp w 8) : I64 k := by rw [h]; exact kind_I64 w
/-- Behind the place where the edges begin. -/
noncomputable def restS (line w : ByteArray) (hl : ¬ (20000 : Int) < line.size) (k : Int) (a : Nat) (c : Cut9 line w k a) : D Tryd.prog (fun a => a = readS line ∧ rgd [Rk.S a.1, Rk.B a.2]) :=
  .td inferInstance (pieces 32 line) 1 a ⟨c.lo, c.hi⟩ 1 a rfl rfl <|
  .c Tryd.func40 (NumsS (((pieces 32 line).take a).drop 1) (by have := pieces_le 32 line; simp only [List.length_drop, List.length_take]; omega)) fun _ =>
  .dp inferInstance (pieces 32 line) a c.hi a rfl <|
  .c Tryd.func41 (EdgesS ((pieces 32 line).drop a) (by have := pieces_le 32 line; simp only [List.length_drop]; omega) (fun y hy => Nat.le_trans (pieces_sz 32 line y (List.mem_of_mem_drop hy)) (by omega))) fun _ =>
  .v (numsR (((pieces 32 line).take a).drop 1)).2
    (fun hb => .rt (deed0, false) ⟨rs_none (c.badn hb), deed0_ok, trivial⟩)
    (fun hb => .v (edgesR ((pieces 32 line).drop a)).2
      (fun he => .rt (deed0, false) ⟨rs_none (c.bade he), deed0_ok, trivial⟩)
      (fun he => let hk := k64 c.hk
        .s (k = 1)
        (fun h1 => .s (((numsR (((pieces 32 line).take a).drop 1)).1.length : Int) = 5)
          (fun h5 => .x (numsR (((pieces 32 line).take a).drop 1)).1 0 (h := by omega) fun a0 e0 g0 => .x (numsR (((pieces 32 line).take a).drop 1)).1 1 (h := by omega) fun a1 e1 g1 => .x (numsR (((pieces 32 line).take a).drop 1)).1 2 (h := by omega) fun a2 e2 g2 => .x (numsR (((pieces 32 line).take a).drop 1)).1 3 (h := by omega) fun a3 e3 g3 => .x (numsR (((pieces 32 line).take a).drop 1)).1 4 (h := by omega) fun a4 e4 g4 =>
            finS line ⟨k, a0, ⟨a1, a2, a3, a4, (edgesR ((pieces 32 line).drop a)).1⟩, 0, 0, 0, 0⟩ hl (c.good1 h1 hb he (by rw [if_pos (by omega), h1, submitOf, headD_0 e0, headD_at e1, headD_at e2, headD_at e3, headD_at e4])) ⟨hk, g0, ⟨g1, g2, g3, g4⟩, i64z, i64z, i64z, i64z⟩)
          (fun h5 => .kf (k = 2) (by omega) <| .kf (k = 3) (by omega) <| .kf (k = 4) (by omega) <| .kf (k = 6) (by omega) <| .kf (k = 7) (by omega) <|
            finS line ⟨k, 0, ⟨0, 0, 0, 0, []⟩, 0, 0, 0, 0⟩ hl (c.good1 h1 hb he (by rw [if_neg (by omega), h1]; rfl)) ⟨hk, i64z, ⟨i64z, i64z, i64z, i64z⟩, i64z, i64z, i64z, i64z⟩))
        (fun h1 => .s (k = 2)
          (fun h2 => .s (((numsR (((pieces 32 line).take a).drop 1)).1.length : Int) = 2)
            (fun h5 => .x (numsR (((pieces 32 line).take a).drop 1)).1 0 (h := by omega) fun a0 e0 g0 => .x (numsR (((pieces 32 line).take a).drop 1)).1 1 (h := by omega) fun a1 e1 g1 =>
              finS line ⟨k, 0, ⟨0, 0, 0, 0, []⟩, 0, 0, a0, a1⟩ hl (c.goodk h1 hb (by rw [fillS, if_pos ⟨h2, by omega⟩, headD_0 e0, headD_at e1]; rfl)) ⟨hk, i64z, ⟨i64z, i64z, i64z, i64z⟩, i64z, i64z, g0, g1⟩)
            (fun h5 => .kf (k = 3) (by omega) <| .kf (k = 4) (by omega) <| .kf (k = 6) (by omega) <| .kf (k = 7) (by omega) <|
              finS line ⟨k, 0, ⟨0, 0, 0, 0, []⟩, 0, 0, 0, 0⟩ hl (c.goodk h1 hb (by rw [fillS, if_neg (by omega), if_neg (by omega), if_neg (by omega)]; rfl)) ⟨hk, i64z, ⟨i64z, i64z, i64z, i64z⟩, i64z, i64z, i64z, i64z⟩))
          (fun h2 => .s (k = 3)
            (fun h3 => .s (((numsR (((pieces 32 line).take a).drop 1)).1.length : Int) = 3)
              (fun h5 => .x (numsR (((pieces 32 line).take a).drop 1)).1 0 (h := by omega) fun a0 e0 g0 => .x (numsR (((pieces 32 line).take a).drop 1)).1 1 (h := by omega) fun a1 e1 g1 => .x (numsR (((pieces 32 line).take a).drop 1)).1 2 (h := by omega) fun a2 e2 g2 =>
                finS line ⟨k, a0, ⟨0, 0, 0, 0, []⟩, a1, a2, 0, 0⟩ hl (c.goodk h1 hb (by rw [fillS, if_neg (by omega), if_pos ⟨.inl h3, by omega⟩, headD_0 e0, headD_at e1, List.drop_drop, headD_at e2]; rfl)) ⟨hk, g0, ⟨i64z, i64z, i64z, i64z⟩, g1, g2, i64z, i64z⟩)
              (fun h5 => .kf (k = 6) (by omega) <| .kf (k = 7) (by omega) <|
                finS line ⟨k, 0, ⟨0, 0, 0, 0, []⟩, 0, 0, 0, 0⟩ hl (c.goodk h1 hb (by rw [fillS, if_neg (by omega), if_neg (by omega), if_neg (by omega)]; rfl)) ⟨hk, i64z, ⟨i64z, i64z, i64z, i64z⟩, i64z, i64z, i64z, i64z⟩))
            (fun h3 => .s (k = 4)
              (fun h4 => .s (((numsR (((pieces 32 line).take a).drop 1)).1.length : Int) = 3)
                (fun h5 => .x (numsR (((pieces 32 line).take a).drop 1)).1 0 (h := by omega) fun a0 e0 g0 => .x (numsR (((pieces 32 line).take a).drop 1)).1 1 (h := by omega) fun a1 e1 g1 => .x (numsR (((pieces 32 line).take a).drop 1)).1 2 (h := by omega) fun a2 e2 g2 =>
                  finS line ⟨k, a0, ⟨0, 0, 0, 0, []⟩, a1, a2, 0, 0⟩ hl (c.goodk h1 hb (by rw [fillS, if_neg (by omega), if_pos ⟨.inr h4, by omega⟩, headD_0 e0, headD_at e1, List.drop_drop, headD_at e2]; rfl)) ⟨hk, g0, ⟨i64z, i64z, i64z, i64z⟩, g1, g2, i64z, i64z⟩)
                (fun h5 => .kf (k = 6) (by omega) <| .kf (k = 7) (by omega) <|
                  finS line ⟨k, 0, ⟨0, 0, 0, 0, []⟩, 0, 0, 0, 0⟩ hl (c.goodk h1 hb (by rw [fillS, if_neg (by omega), if_neg (by omega), if_neg (by omega)]; rfl)) ⟨hk, i64z, ⟨i64z, i64z, i64z, i64z⟩, i64z, i64z, i64z, i64z⟩))
              (fun h4 => .s (k = 6)
                (fun h6 => .s (((numsR (((pieces 32 line).take a).drop 1)).1.length : Int) = 1)
                  (fun h5 => .x (numsR (((pieces 32 line).take a).drop 1)).1 0 (h := by omega) fun a0 e0 g0 =>
                    finS line ⟨k, a0, ⟨0, 0, 0, 0, []⟩, 0, 0, 0, 0⟩ hl (c.goodk h1 hb (by rw [fillS, if_neg (by omega), if_neg (by omega), if_pos ⟨.inl h6, by omega⟩, headD_0 e0]; rfl)) ⟨hk, g0, ⟨i64z, i64z, i64z, i64z⟩, i64z, i64z, i64z, i64z⟩)
                  (fun h5 => finS line ⟨k, 0, ⟨0, 0, 0, 0, []⟩, 0, 0, 0, 0⟩ hl (c.goodk h1 hb (by rw [fillS, if_neg (by omega), if_neg (by omega), if_neg (by omega)]; rfl)) ⟨hk, i64z, ⟨i64z, i64z, i64z, i64z⟩, i64z, i64z, i64z, i64z⟩))
                (fun h6 => .s (k = 7)
                  (fun h7 => .s (((numsR (((pieces 32 line).take a).drop 1)).1.length : Int) = 1)
                    (fun h5 => .x (numsR (((pieces 32 line).take a).drop 1)).1 0 (h := by omega) fun a0 e0 g0 =>
                      finS line ⟨k, a0, ⟨0, 0, 0, 0, []⟩, 0, 0, 0, 0⟩ hl (c.goodk h1 hb (by rw [fillS, if_neg (by omega), if_neg (by omega), if_pos ⟨.inr h7, by omega⟩, headD_0 e0]; rfl)) ⟨hk, g0, ⟨i64z, i64z, i64z, i64z⟩, i64z, i64z, i64z, i64z⟩)
                    (fun h5 => finS line ⟨k, 0, ⟨0, 0, 0, 0, []⟩, 0, 0, 0, 0⟩ hl (c.goodk h1 hb (by rw [fillS, if_neg (by omega), if_neg (by omega), if_neg (by omega)]; rfl)) ⟨hk, i64z, ⟨i64z, i64z, i64z, i64z⟩, i64z, i64z, i64z, i64z⟩))
                  (fun h7 => finS line ⟨k, 0, ⟨0, 0, 0, 0, []⟩, 0, 0, 0, 0⟩ hl (c.goodk h1 hb (by rw [fillS, if_neg (by omega), if_neg (by omega), if_neg (by omega)]; rfl)) ⟨hk, i64z, ⟨i64z, i64z, i64z, i64z⟩, i64z, i64z, i64z, i64z⟩))))))))
theorem ReadDeedS (line : ByteArray) (hl : line.size ≤ 1048576) : Ct1 Tryd.prog 20 [.T line] [.S (readS line).1, .B (readS line).2] :=
  .one (readS line) (rk := fun a => [.S a.1, .B a.2]) <| vc Tryd.func20 (fun hg => .s ((20000 : Int) < line.size)
    (fun h => .rt (deed0, false) ⟨rs_long h, deed0_ok, trivial⟩)
    (fun h0 => .c Tryd.func39 (WordsS line 32 hl) fun _ => .li (inferInstance : Dsh ByteArray) 19 words9 (by simp [words9]) (by simp [words9]) words9_ok <|
      .ex (p := fun w => (pieces 32 line)[0]? = some w) ⟨_, List.getElem?_eq_getElem (pieces_pos 32 line)⟩ fun w hw =>
      .l (Γ := Nat × Int) (fun g => g.1 ≤ 8 ∧ g.2 = kindUp w g.1) (fun g => 8 - g.1) [0, 2, 4, 5, 6] [0, 1, 2] [] (fun g => [vI 7 ((g.1 : Int) + 1)]) (fun g => [oB 3 (dc g.2 (.v (.slice none 0 0)))]) (0, 0) (h := ⟨by omega, rfl⟩) fun g hJ t =>
      .s ((g.1 : Int) + 1 < 9)
        (fun h => .y hw fun _ => .ye (words9_at (n := g.1) (by omega)) ((g.1 : Int) + 1) (fun _ => .s (w = deedW ((g.1 : Int) + 1))
          (fun h2 => .p ((g.1 : Int) + 1) 1 (h := by unfold I64; omega) <| .n t (g.1 + 1, (g.1 : Int) + 1) [] ⟨by dsimp only; omega, kindUp_t h2.symm⟩ (by dsimp only; omega))
          (fun h2 => .p ((g.1 : Int) + 1) 1 (h := by unfold I64; omega) <| .n t (g.1 + 1, g.2) [] ⟨by dsimp only; omega, kindUp_f hJ.2 (fun e => h2 e.symm)⟩ (by dsimp only; omega))))
        (fun h => let hk : g.2 = kindUp w 8 := by have h8 : g.1 = 8 := by { have := hJ.1; omega }; rw [← h8]; exact hJ.2
          .s (g.2 = 1)
          (fun h1 => .s ((6 : Int) < (pieces 32 line).length)
            (fun h6 => restS line w h0 g.2 6 (cut_a hw hk h1 h6))
            (fun h6 => restS line w h0 g.2 (pieces 32 line).length (cut_b hw hk h6)))
          (fun h1 => restS line w h0 g.2 (pieces 32 line).length (cut_c hw hk h1))))) (by kernel_rfl)
theorem readS_I (line : ByteArray) : readDeed line = readS line := readDeed_S line
end Go.Proofs.YtchnllpegfbleaaDoor

/-
  Deeds read, as calls.
-/
namespace Go.Proofs.YtchnllpegfbleaaDoor
set_option linter.unusedSimpArgs false
set_option linter.unusedVariables false
open Go.RowKit Go.Lib
noncomputable def rdD (s : ByteArray) : Deed := (readDeed s).1
noncomputable def rdB (s : ByteArray) : Bool := (readDeed s).2
theorem readDeed_wt (line : ByteArray) : (rdD line).wt ≤ 1000 := by
  show (readDeed line).1.plan.edges.length ≤ 1000
  unfold readDeed rdOf
  split
  · simp [deed0]
  · next d hd =>
    split
    · simp [deed0]
    · next h =>
      obtain ⟨h1, h2⟩ := not_or.1 h
      have hl : deedLine d = line := Decidable.not_not.1 h2
      have := (deedOk_facts (line_ok hl h1).1).2.1
      show d.plan.edges.length ≤ 1000
      omega
theorem own_of {w W : World} {u : Value} {b : Bool} {x : Deed} {vs : List Value} {rs : List Res} {e : Ending} (he : e = .returned (rval vs)) (hr : Rks vs [Rk.S x, Rk.B b] rs) (st : St w W rs) : ∃ (cs' : List Value) (fp' : List Nat), e = .returned (.tuple #[.agg cs'.toArray, .bool b]) ∧ St w W [Res.own (.agg cs'.toArray) x fp'] := by
  match vs, hr with
  | [v1, v2], hr =>
    obtain ⟨r1, r2, h1, h2, h6⟩ := hr
    obtain ⟨cs, fp, hv1, hr1⟩ := h1
    obtain ⟨r3, r4, h3, h4, h5⟩ := h2
    obtain ⟨hv2, hr3⟩ := h3
    have h4 : r4 = [] := h4
    subst h4 hr3 h5 hr1 h6 hv1 hv2
    refine ⟨cs, fp, he, ?_⟩
    have st2 : St w W (Res.cs cs x fp :: []) := st
    exact st2.trade1 rfl fun h => ⟨⟨cs, rfl, h.1⟩, h.2⟩
theorem ReadDeedIC (w : World) (s : ByteArray) (hs : s.size ≤ 1048576) (hG : gD.p w) : Calls Tryd.prog 21 #[.string s] w fun e W => ∃ (cs' : List Value) (fp' : List Nat), e = .returned (.tuple #[.agg cs'.toArray, .bool (rdB s)]) ∧ St w W [Res.own (.agg cs'.toArray) (rdD s) fp'] :=
  ((ReadDeedI s hs).run w [.string s] hG ⟨rfl, trivial⟩).mono fun e W ⟨_, vs, rs, _, he, hr, st⟩ => own_of (u := undef) he hr st
theorem ReadDeedSC (w : World) (s : ByteArray) (hs : s.size ≤ 1048576) : Calls Tryd.prog 20 #[.string s] w fun e W => ∃ (cs' : List Value) (fp' : List Nat), e = .returned (.tuple #[.agg cs'.toArray, .bool (rdB s)]) ∧ St w W [Res.own (.agg cs'.toArray) (rdD s) fp'] := by
  rw [rdB, rdD, readS_I]
  exact ((ReadDeedS s hs).run w [.string s] trivial ⟨rfl, trivial⟩).mono fun e W ⟨_, vs, rs, _, he, hr, st⟩ => own_of (u := undef) he hr st
end Go.Proofs.YtchnllpegfbleaaDoor

/-
  The laws' copies: what they return is the call's own. (Printed by a program of this project's.)
-/
namespace Go.Proofs.YtchnllpegfbleaaDoor
set_option linter.unusedSimpArgs false
set_option linter.unusedVariables false
set_option maxRecDepth 100000
open Go.RowKit

theorem St.own0 {α : Type} [Shape α] [Agg α] {w0 W : World} {cs : List Value} {x : α} {rs : List Res} (h : St w0 W rs) (hc : Shape.C W cs x []) (ha : Agg.agg α = true) : St w0 W (Res.own (.agg cs.toArray) x [] :: rs) :=
  (St.cs0 h hc).trade1 rfl (fun hh => ⟨⟨cs, by simp only [val, ha, cond_true], hh.1⟩, hh.2⟩)

set_option maxHeartbeats 2000000 in
theorem toEdge_n (w : World) {x : Edge} {cs : List Value} {fp : List Nat} (hc : Shape.C w cs x fp) :
    Calls Tryd.prog 67 #[.agg cs.toArray] w fun e w' => e = .returned (.agg #[I x.from_, I x.to_]) ∧ x.ok ∧ St w w' [] := by
  refine enter1 Tryd.func67 rfl Tryd.ntmps67 (by decide) ?_
  refine wp_seq ?_
  refine sx_region ?_
  refine sx rfl (stp_box_agg (cs := cs) rfl (St.start w) ?_); intro b1 W2 hb3 st4
  refine sx rfl (stp_alloc zz_Edge st4 ?_); intro b6 W7 hb8 st9
  refine sx_nil ?_
  refine wp_seq ?_
  refine sx_region ?_
  refine sx rfl (stp_alloc zz_Edge st9 ?_); intro b11 W12 hb13 st14
  refine sx_nil ?_
  refine wp_seq ?_
  refine sx_region ?_
  have hk17 := hc
  obtain ⟨he17, rfl, hok17⟩ := hk17
  have he17 : _ = [I x.from_, I x.to_] := he17
  subst he17
  refine rn st14 3 Ag.nil.put.put.put.put [] [(5, I x.from_), (6, .pointer (some ⟨b11, 0, none⟩))] [qb 2 rfl 0] (by kernel_rfl) fun f18 h18_ => ?_
  refine sxn rfl rfl (stp_store_one (v := I x.from_) (C' := [I x.from_, I 0]) (by kernel_rfl) (h18_.at 6) (h18_.at 5) rfl rfl st14 (Nat.le_of_ble_eq_true rfl) rfl ?_); intro W19 st20
  refine sx_nil ?_
  refine wp_seq ?_
  refine sx_region ?_
  refine rn st20 3 h18_ [] [(8, I x.to_), (9, .pointer (some ⟨b11, 1, none⟩))] [qb 2 rfl 1] (by kernel_rfl) fun f22 h22_ => ?_
  refine sxn rfl rfl (stp_store_one (v := I x.to_) (C' := [I x.from_, I x.to_]) (by kernel_rfl) (h22_.at 9) (h22_.at 8) rfl rfl st20 (Nat.le_of_ble_eq_true rfl) rfl ?_); intro W23 st24
  refine sx_nil ?_
  refine wp_seq ?_
  refine sx_region ?_
  refine sx rfl (stp_load_bxs (cs := [I x.from_, I x.to_]) ld_Edge rfl (h22_.at 3) (st24.get 0 rfl) rfl rfl ?_)
  refine sxn rfl rfl (stp_store_agg (cs := [I x.from_, I x.to_]) (C' := [I x.from_, I x.to_]) (by kernel_rfl) (h22_.at 2) rfl (one_cons rfl (one_cons rfl one_nil)) st24.f1 (Nat.le_of_ble_eq_true rfl) rfl ?_); intro W28 st29
  refine sx_nil ?_
  refine wr (retc1 ld_Edge rfl Tryd.results67 (h22_.at 2) (st29.get 0 rfl) rfl ?_)
  exact ⟨rfl, by assumption, st29.bare⟩
theorem toEdge_o (w : World) {x : Edge} {cs : List Value} {fp : List Nat} (hc : Shape.C w cs x fp) : Calls Tryd.prog 67 #[.agg cs.toArray] w fun e w' => ∃ (cs' : List Value) (fp' : List Nat), e = .returned (.agg cs'.toArray) ∧ St w w' [Res.own (.agg cs'.toArray) x fp'] :=
  (toEdge_n w hc).mono (by rintro e w' ⟨rfl, hok, hk⟩; exact ⟨_, _, rfl, St.own0 hk ⟨rfl, rfl, hok⟩ rfl⟩)

set_option maxHeartbeats 2000000 in
theorem toEdgeS_n (w : World) {v : Value} {xs : List Edge} {fp : List Nat} (h : Sl w v xs fp) (hw : xs.length ≤ 1048576) :
    Calls Tryd.prog 50 #[v] w fun e w' => ∃ (v' : Value) (fp' : List Nat), e = .returned v' ∧ St w w' [Res.own v' xs fp'] := by
  have hl : xs.length ≤ 1048576 := by omega
  refine enter1 Tryd.func50 rfl Tryd.ntmps50 (by decide) ?_
  refine wp_seq ?_
  refine sx_region ?_
  refine sx rfl (stp_assign (v := .slice none 0 0) rfl ?_)
  refine sx_nil ?_
  refine wp_seq ?_
  refine sx_region ?_
  refine sx rfl (stp_move (v := v) rfl ?_)
  refine sx rfl (stp_len sl_EdgeSL rfl h ?_)
  refine sx rfl (stp_make (α := Edge) (N := xs.length) ap_EdgeS rfl rfl (by omega) (by omega) (St.start w) ?_); intro b5 W6 hb7 st8
  refine sx rfl (stp_assign (v := .slice (some ⟨b5, 0, none⟩) xs.length xs.length) rfl ?_)
  refine sx_nil ?_
  refine wp_seq ?_
  refine wp_seq ?_
  refine sx_region ?_
  refine sx rfl (stp_assign (v := I 0) rfl ?_)
  refine sx_nil ?_
  refine wp_block ?_
  refine sx_loop (fun (m : Nat) (f : Nat → Value) (W : World) => ∃ (k : Nat) (fe14 : List Nat), k ≤ xs.length ∧ m = xs.length - k ∧ Ag [(0, v), (3, .slice (some ⟨b5, 0, none⟩) xs.length xs.length), (4, I (k : Int))] f ∧ St w W ([Res.fill (α := Edge) 75 b5 xs.length (xs.take k) fe14])) (xs.length - 0) ?_ ?_
  · exact ⟨0, [], (by first | omega | simp), rfl, (Ag.nil.put.put.put.put.put.put.put.to (by kernel_rfl)), st8⟩
  intro m15 f16 W17 hJ18
  obtain ⟨k, fe14, hcd20_0, rfl, hA20, st19⟩ := hJ18
  refine wp_seq ?_
  refine wp_seq ?_
  refine sx_region ?_
  refine rn st19 4 hA20 [] [(11, .bool (decide ((k : Int) < (xs.length : Int))))] [ql h, .o] (by kernel_rfl) fun f22 h22_ => ?_
  refine sx_nil ?_
  refine sx_ifd (h22_.at 11) (fun h23p => ?_) (fun h23p => ?_)
  · skip
    refine wp_skip ?_
    refine wp_seq ?_
    refine wp_block ?_
    refine sx_region ?_
    have hi51fab : k < xs.length := (by omega)
    have hq_ := idx h (i := k) hi51fab
    obtain ⟨b25, o25, cs25, f25, hp25, hr25, hc25, hm25⟩ := hq_
    refine rn st19 6 h22_ [] [(14, .slice (some ⟨b5, 0, none⟩) xs.length xs.length), (15, I (k : Int)), (19, .agg cs25.toArray)] [qx hp25, qrw hr25 (Shape.len hc25)] (by kernel_rfl) fun f26 h26_ => ?_
    refine sx rfl (stp_call1 Tryd.func67 rfl (h26_.at 19) ((toEdge_o W17 hc25).mono ?_)); rintro _ W29 ⟨cs27, fp27, rfl, hk30⟩; refine ⟨_, rfl, ?_⟩
    have st31 := St.call st19 hk30
    refine sx rfl (stp_indexAddr sl_EdgeS (h26_.at 14) (PA_row (b := b5) (by omega)) (h26_.at 15) rfl ?_)
    have st34 := st31.f1.f1.cs rfl
    refine sxn rfl rfl (stp_store_fill (by kernel_rfl) rfl (congrArg (fun z => 0 + z * _) (List.length_take_of_le (by omega)).symm) rfl (.inl rfl) st34 (by rw [List.length_take_of_le (by omega)]; omega) ?_); intro W36 st37
    refine sx_nil ?_
    refine sx_region ?_
    refine rn st37 3 h26_.put.put [4] [(4, I ((k : Int) + 1))] [qad (k : Int) 1] (by kernel_rfl) fun f39 h39_ => ?_
    refine sx_nil ?_
    exact ⟨_, xs.length - (k + 1), (by omega), rfl, k + 1, fe14 ++ fp27, (by omega), rfl, (h39_.to (by kernel_rfl)), (by rw [List.take_succ_eq_append_getElem (by omega)]; exact st37)⟩
  · skip
    refine wp_exit ?_
    refine wp_seq ?_
    refine sx_region ?_
    refine sx rfl (stp_move (v := .slice (some ⟨b5, 0, none⟩) xs.length xs.length) (h22_.at 3) ?_)
    refine sx rfl (stp_assign (v := .slice (some ⟨b5, 0, none⟩) xs.length xs.length) rfl ?_)
    refine sx_nil ?_
    refine wr (ret1 Tryd.results50 rfl ?_)
    obtain rfl : k = xs.length := by omega
    rw [List.take_length] at st19
    have hq_ := st19.full rfl (by omega)
    obtain ⟨fpz, stz⟩ := hq_
    exact ⟨_, fpz, rfl, stz.only 0 rfl⟩
set_option maxHeartbeats 2000000 in
theorem toPlan_n (w : World) {x : Plan} {cs : List Value} {fp : List Nat} (hc : Shape.C w cs x fp) (hw : x.wt ≤ 1048576) :
    Calls Tryd.prog 29 #[.agg cs.toArray] w fun e w' => ∃ (cs' : List Value) (fp' : List Nat), e = .returned (.agg cs'.toArray) ∧ St w w' [Res.own (.agg cs'.toArray) x fp'] := by
  have hw' := hw
  unfold Plan.wt at hw'
  refine enter1 Tryd.func29 rfl Tryd.ntmps29 (by decide) ?_
  refine wp_seq ?_
  refine sx_region ?_
  refine sx rfl (stp_box_agg (cs := cs) rfl (St.start w) ?_); intro b1 W2 hb3 st4
  refine sx rfl (stp_alloc zz_Plan st4 ?_); intro b6 W7 hb8 st9
  refine sx_nil ?_
  refine wp_seq ?_
  refine sx_region ?_
  refine sx rfl (stp_alloc zz_Plan st9 ?_); intro b11 W12 hb13 st14
  refine sx_nil ?_
  refine wp_seq ?_
  refine sx_region ?_
  have hk17 := hc
  obtain ⟨v17_0, g17_0, rfl, hok17, h17_0, rfl⟩ := hk17
  refine rn st14 3 Ag.nil.put.put.put.put [] [(5, I x.prio), (6, .pointer (some ⟨b11, 0, none⟩))] [qb 2 rfl 0] (by kernel_rfl) fun f18 h18_ => ?_
  refine sxn rfl rfl (stp_store_one (v := I x.prio) (C' := [I x.prio, I 0, I 0, I 0, .slice none 0 0]) (by kernel_rfl) (h18_.at 6) (h18_.at 5) rfl rfl st14 (Nat.le_of_ble_eq_true rfl) rfl ?_); intro W19 st20
  refine sx_nil ?_
  refine wp_seq ?_
  refine sx_region ?_
  refine rn st20 3 h18_ [] [(8, I x.most), (9, .pointer (some ⟨b11, 1, none⟩))] [qb 2 rfl 1] (by kernel_rfl) fun f22 h22_ => ?_
  refine sxn rfl rfl (stp_store_one (v := I x.most) (C' := [I x.prio, I x.most, I 0, I 0, .slice none 0 0]) (by kernel_rfl) (h22_.at 9) (h22_.at 8) rfl rfl st20 (Nat.le_of_ble_eq_true rfl) rfl ?_); intro W23 st24
  refine sx_nil ?_
  refine wp_seq ?_
  refine sx_region ?_
  refine rn st24 3 h22_ [] [(11, I x.wait), (12, .pointer (some ⟨b11, 2, none⟩))] [qb 2 rfl 2] (by kernel_rfl) fun f26 h26_ => ?_
  refine sxn rfl rfl (stp_store_one (v := I x.wait) (C' := [I x.prio, I x.most, I x.wait, I 0, .slice none 0 0]) (by kernel_rfl) (h26_.at 12) (h26_.at 11) rfl rfl st24 (Nat.le_of_ble_eq_true rfl) rfl ?_); intro W27 st28
  refine sx_nil ?_
  refine wp_seq ?_
  refine sx_region ?_
  refine rn st28 3 h26_ [] [(14, I x.tasks), (15, .pointer (some ⟨b11, 3, none⟩))] [qb 2 rfl 3] (by kernel_rfl) fun f30 h30_ => ?_
  refine sxn rfl rfl (stp_store_one (v := I x.tasks) (C' := [I x.prio, I x.most, I x.wait, I x.tasks, .slice none 0 0]) (by kernel_rfl) (h30_.at 15) (h30_.at 14) rfl rfl st28 (Nat.le_of_ble_eq_true rfl) rfl ?_); intro W31 st32
  refine sx_nil ?_
  refine wp_seq ?_
  refine sx_region ?_
  refine sx rfl (stp_fieldAddr fa_PlanL_4 (h30_.at 1) ?_)
  refine sx rfl (stp_load_bx ld_EdgeSL rfl rfl (st32.get 2 rfl) (i := 4) rfl rfl ?_)
  refine sx rfl (stp_call1 Tryd.func50 rfl rfl ((toEdgeS_n W31 (h17_0.below st32.below) (by first | exact hw | omega | (simp only [Plan.wt, Run.wt, Yard.wt, Deed.wt, Note.wt, File.wt, Disk.wt, Engine.wt, WorldD.wt, ActD.wt, Span.wt, Crew.wt] at *; omega))).mono ?_)); rintro _ W37 ⟨v35, fp35, rfl, hk38⟩; refine ⟨_, rfl, ?_⟩
  have st39 := St.call st32 hk38
  refine sx rfl (stp_fieldAddr fa_Plan_4 (h30_.at 3) ?_)
  refine sxn rfl rfl (stp_store_one (v := v35) (C' := [I x.prio, I x.most, I x.wait, I x.tasks, v35]) (by kernel_rfl) rfl rfl (Sl.cells (own_Sl (st39.f1.get 1 rfl))) (Sl.one (own_Sl (st39.f1.get 1 rfl))) st39.f1 (Nat.le_of_ble_eq_true rfl) rfl ?_); intro W44 st45
  refine sx_nil ?_
  refine wp_seq ?_
  refine sx_region ?_
  refine sx rfl (stp_load_bxs (cs := [I x.prio, I x.most, I x.wait, I x.tasks, v35]) ld_Plan rfl (h30_.at 3) (st45.get 0 rfl) rfl rfl ?_)
  refine sxn rfl rfl (stp_store_agg (cs := [I x.prio, I x.most, I x.wait, I x.tasks, v35]) (C' := [I x.prio, I x.most, I x.wait, I x.tasks, v35]) (by kernel_rfl) (h30_.at 2) rfl (one_cons rfl (one_cons rfl (one_cons rfl (one_cons rfl (one_cons (Sl.one (own_Sl (st45.f2.get 2 rfl))) one_nil))))) st45.f2 (Nat.le_of_ble_eq_true rfl) rfl ?_); intro W49 st50
  refine sx_nil ?_
  refine wr (retc1 ld_Plan rfl Tryd.results29 (h30_.at 2) (st50.get 0 rfl) rfl ?_)
  have st52 := shut_Plan (x := x) st50.f2 (by first | exact True.intro | (simp only [Edge.ok, Plan.ok, Entry.ok, Task.ok, Run.ok, Yard.ok, Reply.ok, Deed.ok, Note.ok, Wait.ok, File.ok, Disk.ok, Engine.ok, WorldD.ok, ActD.ok, Hand.ok, Span.ok, Crew.ok, View.ok, I64] at *; omega))
  exact ⟨_, _, rfl, st52.only 0 rfl⟩

set_option maxHeartbeats 2000000 in
theorem toTask_n (w : World) {x : Task} {cs : List Value} {fp : List Nat} (hc : Shape.C w cs x fp) :
    Calls Tryd.prog 51 #[.agg cs.toArray] w fun e w' => e = .returned (.agg #[I x.state, I x.need, I x.try_, I x.until_]) ∧ x.ok ∧ St w w' [] := by
  refine enter1 Tryd.func51 rfl Tryd.ntmps51 (by decide) ?_
  refine wp_seq ?_
  refine sx_region ?_
  refine sx rfl (stp_box_agg (cs := cs) rfl (St.start w) ?_); intro b1 W2 hb3 st4
  refine sx rfl (stp_alloc zz_Task st4 ?_); intro b6 W7 hb8 st9
  refine sx_nil ?_
  refine wp_seq ?_
  refine sx_region ?_
  refine sx rfl (stp_alloc zz_Task st9 ?_); intro b11 W12 hb13 st14
  refine sx_nil ?_
  refine wp_seq ?_
  refine sx_region ?_
  have hk17 := hc
  obtain ⟨he17, rfl, hok17⟩ := hk17
  have he17 : _ = [I x.state, I x.need, I x.try_, I x.until_] := he17
  subst he17
  refine rn st14 3 Ag.nil.put.put.put.put [] [(5, I x.state), (6, .pointer (some ⟨b11, 0, none⟩))] [qb 2 rfl 0] (by kernel_rfl) fun f18 h18_ => ?_
  refine sxn rfl rfl (stp_store_one (v := I x.state) (C' := [I x.state, I 0, I 0, I 0]) (by kernel_rfl) (h18_.at 6) (h18_.at 5) rfl rfl st14 (Nat.le_of_ble_eq_true rfl) rfl ?_); intro W19 st20
  refine sx_nil ?_
  refine wp_seq ?_
  refine sx_region ?_
  refine rn st20 3 h18_ [] [(8, I x.need), (9, .pointer (some ⟨b11, 1, none⟩))] [qb 2 rfl 1] (by kernel_rfl) fun f22 h22_ => ?_
  refine sxn rfl rfl (stp_store_one (v := I x.need) (C' := [I x.state, I x.need, I 0, I 0]) (by kernel_rfl) (h22_.at 9) (h22_.at 8) rfl rfl st20 (Nat.le_of_ble_eq_true rfl) rfl ?_); intro W23 st24
  refine sx_nil ?_
  refine wp_seq ?_
  refine sx_region ?_
  refine rn st24 3 h22_ [] [(11, I x.try_), (12, .pointer (some ⟨b11, 2, none⟩))] [qb 2 rfl 2] (by kernel_rfl) fun f26 h26_ => ?_
  refine sxn rfl rfl (stp_store_one (v := I x.try_) (C' := [I x.state, I x.need, I x.try_, I 0]) (by kernel_rfl) (h26_.at 12) (h26_.at 11) rfl rfl st24 (Nat.le_of_ble_eq_true rfl) rfl ?_); intro W27 st28
  refine sx_nil ?_
  refine wp_seq ?_
  refine sx_region ?_
  refine rn st28 3 h26_ [] [(14, I x.until_), (15, .pointer (some ⟨b11, 3, none⟩))] [qb 2 rfl 3] (by kernel_rfl) fun f30 h30_ => ?_
  refine sxn rfl rfl (stp_store_one (v := I x.until_) (C' := [I x.state, I x.need, I x.try_, I x.until_]) (by kernel_rfl) (h30_.at 15) (h30_.at 14) rfl rfl st28 (Nat.le_of_ble_eq_true rfl) rfl ?_); intro W31 st32
  refine sx_nil ?_
  refine wp_seq ?_
  refine sx_region ?_
  refine sx rfl (stp_load_bxs (cs := [I x.state, I x.need, I x.try_, I x.until_]) ld_Task rfl (h30_.at 3) (st32.get 0 rfl) rfl rfl ?_)
  refine sxn rfl rfl (stp_store_agg (cs := [I x.state, I x.need, I x.try_, I x.until_]) (C' := [I x.state, I x.need, I x.try_, I x.until_]) (by kernel_rfl) (h30_.at 2) rfl (one_cons rfl (one_cons rfl (one_cons rfl (one_cons rfl one_nil)))) st32.f1 (Nat.le_of_ble_eq_true rfl) rfl ?_); intro W36 st37
  refine sx_nil ?_
  refine wr (retc1 ld_Task rfl Tryd.results51 (h30_.at 2) (st37.get 0 rfl) rfl ?_)
  exact ⟨rfl, by assumption, st37.bare⟩
theorem toTask_o (w : World) {x : Task} {cs : List Value} {fp : List Nat} (hc : Shape.C w cs x fp) : Calls Tryd.prog 51 #[.agg cs.toArray] w fun e w' => ∃ (cs' : List Value) (fp' : List Nat), e = .returned (.agg cs'.toArray) ∧ St w w' [Res.own (.agg cs'.toArray) x fp'] :=
  (toTask_n w hc).mono (by rintro e w' ⟨rfl, hok, hk⟩; exact ⟨_, _, rfl, St.own0 hk ⟨rfl, rfl, hok⟩ rfl⟩)

set_option maxHeartbeats 2000000 in
theorem toTaskS_n (w : World) {v : Value} {xs : List Task} {fp : List Nat} (h : Sl w v xs fp) (hw : xs.length ≤ 1048576) :
    Calls Tryd.prog 30 #[v] w fun e w' => ∃ (v' : Value) (fp' : List Nat), e = .returned v' ∧ St w w' [Res.own v' xs fp'] := by
  have hl : xs.length ≤ 1048576 := by omega
  refine enter1 Tryd.func30 rfl Tryd.ntmps30 (by decide) ?_
  refine wp_seq ?_
  refine sx_region ?_
  refine sx rfl (stp_assign (v := .slice none 0 0) rfl ?_)
  refine sx_nil ?_
  refine wp_seq ?_
  refine sx_region ?_
  refine sx rfl (stp_move (v := v) rfl ?_)
  refine sx rfl (stp_len sl_TaskSL rfl h ?_)
  refine sx rfl (stp_make (α := Task) (N := xs.length) ap_TaskS rfl rfl (by omega) (by omega) (St.start w) ?_); intro b5 W6 hb7 st8
  refine sx rfl (stp_assign (v := .slice (some ⟨b5, 0, none⟩) xs.length xs.length) rfl ?_)
  refine sx_nil ?_
  refine wp_seq ?_
  refine wp_seq ?_
  refine sx_region ?_
  refine sx rfl (stp_assign (v := I 0) rfl ?_)
  refine sx_nil ?_
  refine wp_block ?_
  refine sx_loop (fun (m : Nat) (f : Nat → Value) (W : World) => ∃ (k : Nat) (fe14 : List Nat), k ≤ xs.length ∧ m = xs.length - k ∧ Ag [(0, v), (3, .slice (some ⟨b5, 0, none⟩) xs.length xs.length), (4, I (k : Int))] f ∧ St w W ([Res.fill (α := Task) 66 b5 xs.length (xs.take k) fe14])) (xs.length - 0) ?_ ?_
  · exact ⟨0, [], (by first | omega | simp), rfl, (Ag.nil.put.put.put.put.put.put.put.to (by kernel_rfl)), st8⟩
  intro m15 f16 W17 hJ18
  obtain ⟨k, fe14, hcd20_0, rfl, hA20, st19⟩ := hJ18
  refine wp_seq ?_
  refine wp_seq ?_
  refine sx_region ?_
  refine rn st19 4 hA20 [] [(11, .bool (decide ((k : Int) < (xs.length : Int))))] [ql h, .o] (by kernel_rfl) fun f22 h22_ => ?_
  refine sx_nil ?_
  refine sx_ifd (h22_.at 11) (fun h23p => ?_) (fun h23p => ?_)
  · skip
    refine wp_skip ?_
    refine wp_seq ?_
    refine wp_block ?_
    refine sx_region ?_
    have hi51fab : k < xs.length := (by omega)
    have hq_ := idx h (i := k) hi51fab
    obtain ⟨b25, o25, cs25, f25, hp25, hr25, hc25, hm25⟩ := hq_
    refine rn st19 6 h22_ [] [(14, .slice (some ⟨b5, 0, none⟩) xs.length xs.length), (15, I (k : Int)), (19, .agg cs25.toArray)] [qx hp25, qrw hr25 (Shape.len hc25)] (by kernel_rfl) fun f26 h26_ => ?_
    refine sx rfl (stp_call1 Tryd.func51 rfl (h26_.at 19) ((toTask_o W17 hc25).mono ?_)); rintro _ W29 ⟨cs27, fp27, rfl, hk30⟩; refine ⟨_, rfl, ?_⟩
    have st31 := St.call st19 hk30
    refine sx rfl (stp_indexAddr sl_TaskS (h26_.at 14) (PA_row (b := b5) (by omega)) (h26_.at 15) rfl ?_)
    have st34 := st31.f1.f1.cs rfl
    refine sxn rfl rfl (stp_store_fill (by kernel_rfl) rfl (congrArg (fun z => 0 + z * _) (List.length_take_of_le (by omega)).symm) rfl (.inl rfl) st34 (by rw [List.length_take_of_le (by omega)]; omega) ?_); intro W36 st37
    refine sx_nil ?_
    refine sx_region ?_
    refine rn st37 3 h26_.put.put [4] [(4, I ((k : Int) + 1))] [qad (k : Int) 1] (by kernel_rfl) fun f39 h39_ => ?_
    refine sx_nil ?_
    exact ⟨_, xs.length - (k + 1), (by omega), rfl, k + 1, fe14 ++ fp27, (by omega), rfl, (h39_.to (by kernel_rfl)), (by rw [List.take_succ_eq_append_getElem (by omega)]; exact st37)⟩
  · skip
    refine wp_exit ?_
    refine wp_seq ?_
    refine sx_region ?_
    refine sx rfl (stp_move (v := .slice (some ⟨b5, 0, none⟩) xs.length xs.length) (h22_.at 3) ?_)
    refine sx rfl (stp_assign (v := .slice (some ⟨b5, 0, none⟩) xs.length xs.length) rfl ?_)
    refine sx_nil ?_
    refine wr (ret1 Tryd.results30 rfl ?_)
    obtain rfl : k = xs.length := by omega
    rw [List.take_length] at st19
    have hq_ := st19.full rfl (by omega)
    obtain ⟨fpz, stz⟩ := hq_
    exact ⟨_, fpz, rfl, stz.only 0 rfl⟩
set_option maxHeartbeats 2000000 in
theorem toRun_n (w : World) {x : Run} {cs : List Value} {fp : List Nat} (hc : Shape.C w cs x fp) (hw : x.wt ≤ 1048576) :
    Calls Tryd.prog 12 #[.agg cs.toArray] w fun e w' => ∃ (cs' : List Value) (fp' : List Nat), e = .returned (.agg cs'.toArray) ∧ St w w' [Res.own (.agg cs'.toArray) x fp'] := by
  have hw' := hw
  unfold Run.wt at hw'
  refine enter1 Tryd.func12 rfl Tryd.ntmps12 (by decide) ?_
  refine wp_seq ?_
  refine sx_region ?_
  refine sx rfl (stp_box_agg (cs := cs) rfl (St.start w) ?_); intro b1 W2 hb3 st4
  refine sx rfl (stp_alloc zz_Run st4 ?_); intro b6 W7 hb8 st9
  refine sx_nil ?_
  refine wp_seq ?_
  refine sx_region ?_
  refine sx rfl (stp_alloc zz_Run st9 ?_); intro b11 W12 hb13 st14
  refine sx_nil ?_
  refine wp_seq ?_
  refine sx_region ?_
  have hk17 := hc
  obtain ⟨v17_0, v17_1, g17_0, g17_1, rfl, hok17, h17_0, h17_1, rfl⟩ := hk17
  refine rn st14 3 Ag.nil.put.put.put.put [] [(5, I x.id), (6, .pointer (some ⟨b11, 0, none⟩))] [qb 2 rfl 0] (by kernel_rfl) fun f18 h18_ => ?_
  refine sxn rfl rfl (stp_store_one (v := I x.id) (C' := [I x.id, I 0, I 0, I 0, I 0, .slice none 0 0, I 0, .slice none 0 0]) (by kernel_rfl) (h18_.at 6) (h18_.at 5) rfl rfl st14 (Nat.le_of_ble_eq_true rfl) rfl ?_); intro W19 st20
  refine sx_nil ?_
  refine wp_seq ?_
  refine sx_region ?_
  refine sx rfl (stp_fieldAddr fa_RunL_1 (h18_.at 1) ?_)
  refine sx rfl (stp_load_bxs (cs := [I x.plan.prio, I x.plan.most, I x.plan.wait, I x.plan.tasks, v17_0]) ld_PlanL rfl rfl (st20.get 2 rfl) rfl rfl ?_)
  refine sx rfl (stp_call1 Tryd.func29 rfl rfl ((toPlan_n W19 (show Shape.C _ [I x.plan.prio, I x.plan.most, I x.plan.wait, I x.plan.tasks, v17_0] x.plan _ from ⟨_, _, rfl, (by first | exact True.intro | (simp only [Edge.ok, Plan.ok, Entry.ok, Task.ok, Run.ok, Yard.ok, Reply.ok, Deed.ok, Note.ok, Wait.ok, File.ok, Disk.ok, Engine.ok, WorldD.ok, ActD.ok, Hand.ok, Span.ok, Crew.ok, View.ok, I64] at *; omega)), (h17_0.below st20.below), rfl⟩) (by first | exact hw | omega | (simp only [Plan.wt, Run.wt, Yard.wt, Deed.wt, Note.wt, File.wt, Disk.wt, Engine.wt, WorldD.wt, ActD.wt, Span.wt, Crew.wt] at *; omega))).mono ?_)); rintro _ W25 ⟨cs23, fp23, rfl, hk26⟩; refine ⟨_, rfl, ?_⟩
  have st27 := St.call st20 hk26
  refine sx rfl (stp_fieldAddr fa_Run_1 (h18_.at 3) ?_)
  have hq_ := open_Plan st27
  obtain ⟨v31_0, g31_0, he31, hok31, st32⟩ := hq_
  subst he31
  refine sxn rfl rfl (stp_store_agg (cs := [I x.plan.prio, I x.plan.most, I x.plan.wait, I x.plan.tasks, v31_0]) (C' := [I x.id, I x.plan.prio, I x.plan.most, I x.plan.wait, I x.plan.tasks, v31_0, I 0, .slice none 0 0]) (by kernel_rfl) rfl rfl (one_cons rfl (one_cons rfl (one_cons rfl (one_cons rfl (one_cons (Sl.one (own_Sl (st32.f1.get 1 rfl))) one_nil))))) st32.f1 (Nat.le_of_ble_eq_true rfl) rfl ?_); intro W35 st36
  refine sx_nil ?_
  refine wp_seq ?_
  refine sx_region ?_
  refine rn st36 3 h18_.put.put.put.put [] [(12, I x.state), (13, .pointer (some ⟨b11, 6, none⟩))] [qb 3 rfl 6] (by kernel_rfl) fun f38 h38_ => ?_
  refine sxn rfl rfl (stp_store_one (v := I x.state) (C' := [I x.id, I x.plan.prio, I x.plan.most, I x.plan.wait, I x.plan.tasks, v31_0, I x.state, .slice none 0 0]) (by kernel_rfl) (h38_.at 13) (h38_.at 12) rfl rfl st36 (Nat.le_of_ble_eq_true rfl) rfl ?_); intro W39 st40
  refine sx_nil ?_
  refine wp_seq ?_
  refine sx_region ?_
  refine sx rfl (stp_fieldAddr fa_RunL_3 (h38_.at 1) ?_)
  refine sx rfl (stp_load_bx ld_TaskSL rfl rfl (st40.get 3 rfl) (i := 7) rfl rfl ?_)
  refine sx rfl (stp_call1 Tryd.func30 rfl rfl ((toTaskS_n W39 (h17_1.below st40.below) (by first | exact hw | omega | (simp only [Plan.wt, Run.wt, Yard.wt, Deed.wt, Note.wt, File.wt, Disk.wt, Engine.wt, WorldD.wt, ActD.wt, Span.wt, Crew.wt] at *; omega))).mono ?_)); rintro _ W45 ⟨v43, fp43, rfl, hk46⟩; refine ⟨_, rfl, ?_⟩
  have st47 := St.call st40 hk46
  refine sx rfl (stp_fieldAddr fa_Run_3 (h38_.at 3) ?_)
  refine sxn rfl rfl (stp_store_one (v := v43) (C' := [I x.id, I x.plan.prio, I x.plan.most, I x.plan.wait, I x.plan.tasks, v31_0, I x.state, v43]) (by kernel_rfl) rfl rfl (Sl.cells (own_Sl (st47.f1.get 1 rfl))) (Sl.one (own_Sl (st47.f1.get 1 rfl))) st47.f1 (Nat.le_of_ble_eq_true rfl) rfl ?_); intro W52 st53
  refine sx_nil ?_
  refine wp_seq ?_
  refine sx_region ?_
  refine sx rfl (stp_load_bxs (cs := [I x.id, I x.plan.prio, I x.plan.most, I x.plan.wait, I x.plan.tasks, v31_0, I x.state, v43]) ld_Run rfl (h38_.at 3) (st53.get 0 rfl) rfl rfl ?_)
  refine sxn rfl rfl (stp_store_agg (cs := [I x.id, I x.plan.prio, I x.plan.most, I x.plan.wait, I x.plan.tasks, v31_0, I x.state, v43]) (C' := [I x.id, I x.plan.prio, I x.plan.most, I x.plan.wait, I x.plan.tasks, v31_0, I x.state, v43]) (by kernel_rfl) (h38_.at 2) rfl (one_cons rfl (one_cons rfl (one_cons rfl (one_cons rfl (one_cons rfl (one_cons (Sl.one (own_Sl (st53.f3.get 3 rfl))) (one_cons rfl (one_cons (Sl.one (own_Sl (st53.f3.get 2 rfl))) one_nil)))))))) st53.f3 (Nat.le_of_ble_eq_true rfl) rfl ?_); intro W57 st58
  refine sx_nil ?_
  refine wr (retc1 ld_Run rfl Tryd.results12 (h38_.at 2) (st58.get 0 rfl) rfl ?_)
  have st61 := shut_Run (x := x) st58.f2.f3 (by first | exact True.intro | (simp only [Edge.ok, Plan.ok, Entry.ok, Task.ok, Run.ok, Yard.ok, Reply.ok, Deed.ok, Note.ok, Wait.ok, File.ok, Disk.ok, Engine.ok, WorldD.ok, ActD.ok, Hand.ok, Span.ok, Crew.ok, View.ok, I64] at *; omega))
  exact ⟨_, _, rfl, st61.only 0 rfl⟩
set_option maxHeartbeats 2000000 in
theorem toReply_n (w : World) {x : Reply} {cs : List Value} {fp : List Nat} (hc : Shape.C w cs x fp) :
    Calls Tryd.prog 8 #[.agg cs.toArray] w fun e w' => e = .returned (.agg #[I x.code, I x.run, I x.task, I x.try_]) ∧ x.ok ∧ St w w' [] := by
  refine enter1 Tryd.func8 rfl Tryd.ntmps8 (by decide) ?_
  refine wp_seq ?_
  refine sx_region ?_
  refine sx rfl (stp_box_agg (cs := cs) rfl (St.start w) ?_); intro b1 W2 hb3 st4
  refine sx rfl (stp_alloc zz_Reply st4 ?_); intro b6 W7 hb8 st9
  refine sx_nil ?_
  refine wp_seq ?_
  refine sx_region ?_
  refine sx rfl (stp_alloc zz_Reply st9 ?_); intro b11 W12 hb13 st14
  refine sx_nil ?_
  refine wp_seq ?_
  refine sx_region ?_
  have hk17 := hc
  obtain ⟨he17, rfl, hok17⟩ := hk17
  have he17 : _ = [I x.code, I x.run, I x.task, I x.try_] := he17
  subst he17
  refine rn st14 3 Ag.nil.put.put.put.put [] [(5, I x.code), (6, .pointer (some ⟨b11, 0, none⟩))] [qb 2 rfl 0] (by kernel_rfl) fun f18 h18_ => ?_
  refine sxn rfl rfl (stp_store_one (v := I x.code) (C' := [I x.code, I 0, I 0, I 0]) (by kernel_rfl) (h18_.at 6) (h18_.at 5) rfl rfl st14 (Nat.le_of_ble_eq_true rfl) rfl ?_); intro W19 st20
  refine sx_nil ?_
  refine wp_seq ?_
  refine sx_region ?_
  refine rn st20 3 h18_ [] [(8, I x.run), (9, .pointer (some ⟨b11, 1, none⟩))] [qb 2 rfl 1] (by kernel_rfl) fun f22 h22_ => ?_
  refine sxn rfl rfl (stp_store_one (v := I x.run) (C' := [I x.code, I x.run, I 0, I 0]) (by kernel_rfl) (h22_.at 9) (h22_.at 8) rfl rfl st20 (Nat.le_of_ble_eq_true rfl) rfl ?_); intro W23 st24
  refine sx_nil ?_
  refine wp_seq ?_
  refine sx_region ?_
  refine rn st24 3 h22_ [] [(11, I x.task), (12, .pointer (some ⟨b11, 2, none⟩))] [qb 2 rfl 2] (by kernel_rfl) fun f26 h26_ => ?_
  refine sxn rfl rfl (stp_store_one (v := I x.task) (C' := [I x.code, I x.run, I x.task, I 0]) (by kernel_rfl) (h26_.at 12) (h26_.at 11) rfl rfl st24 (Nat.le_of_ble_eq_true rfl) rfl ?_); intro W27 st28
  refine sx_nil ?_
  refine wp_seq ?_
  refine sx_region ?_
  refine rn st28 3 h26_ [] [(14, I x.try_), (15, .pointer (some ⟨b11, 3, none⟩))] [qb 2 rfl 3] (by kernel_rfl) fun f30 h30_ => ?_
  refine sxn rfl rfl (stp_store_one (v := I x.try_) (C' := [I x.code, I x.run, I x.task, I x.try_]) (by kernel_rfl) (h30_.at 15) (h30_.at 14) rfl rfl st28 (Nat.le_of_ble_eq_true rfl) rfl ?_); intro W31 st32
  refine sx_nil ?_
  refine wp_seq ?_
  refine sx_region ?_
  refine sx rfl (stp_load_bxs (cs := [I x.code, I x.run, I x.task, I x.try_]) ld_Reply rfl (h30_.at 3) (st32.get 0 rfl) rfl rfl ?_)
  refine sxn rfl rfl (stp_store_agg (cs := [I x.code, I x.run, I x.task, I x.try_]) (C' := [I x.code, I x.run, I x.task, I x.try_]) (by kernel_rfl) (h30_.at 2) rfl (one_cons rfl (one_cons rfl (one_cons rfl (one_cons rfl one_nil)))) st32.f1 (Nat.le_of_ble_eq_true rfl) rfl ?_); intro W36 st37
  refine sx_nil ?_
  refine wr (retc1 ld_Reply rfl Tryd.results8 (h30_.at 2) (st37.get 0 rfl) rfl ?_)
  exact ⟨rfl, by assumption, st37.bare⟩
theorem toReply_o (w : World) {x : Reply} {cs : List Value} {fp : List Nat} (hc : Shape.C w cs x fp) : Calls Tryd.prog 8 #[.agg cs.toArray] w fun e w' => ∃ (cs' : List Value) (fp' : List Nat), e = .returned (.agg cs'.toArray) ∧ St w w' [Res.own (.agg cs'.toArray) x fp'] :=
  (toReply_n w hc).mono (by rintro e w' ⟨rfl, hok, hk⟩; exact ⟨_, _, rfl, St.own0 hk ⟨rfl, rfl, hok⟩ rfl⟩)

set_option maxHeartbeats 2000000 in
theorem toDeed_n (w : World) {x : Deed} {cs : List Value} {fp : List Nat} (hc : Shape.C w cs x fp) (hw : x.wt ≤ 1048576) :
    Calls Tryd.prog 17 #[.agg cs.toArray] w fun e w' => ∃ (cs' : List Value) (fp' : List Nat), e = .returned (.agg cs'.toArray) ∧ St w w' [Res.own (.agg cs'.toArray) x fp'] := by
  have hw' := hw
  unfold Deed.wt at hw'
  refine enter1 Tryd.func17 rfl Tryd.ntmps17 (by decide) ?_
  refine wp_seq ?_
  refine sx_region ?_
  refine sx rfl (stp_box_agg (cs := cs) rfl (St.start w) ?_); intro b1 W2 hb3 st4
  refine sx rfl (stp_alloc zz_Deed st4 ?_); intro b6 W7 hb8 st9
  refine sx_nil ?_
  refine wp_seq ?_
  refine sx_region ?_
  refine sx rfl (stp_alloc zz_Deed st9 ?_); intro b11 W12 hb13 st14
  refine sx_nil ?_
  refine wp_seq ?_
  refine sx_region ?_
  have hk17 := hc
  obtain ⟨v17_0, g17_0, rfl, hok17, h17_0, rfl⟩ := hk17
  refine rn st14 3 Ag.nil.put.put.put.put [] [(5, I x.kind), (6, .pointer (some ⟨b11, 0, none⟩))] [qb 2 rfl 0] (by kernel_rfl) fun f18 h18_ => ?_
  refine sxn rfl rfl (stp_store_one (v := I x.kind) (C' := [I x.kind, I 0, I 0, I 0, I 0, I 0, .slice none 0 0, I 0, I 0, I 0, I 0]) (by kernel_rfl) (h18_.at 6) (h18_.at 5) rfl rfl st14 (Nat.le_of_ble_eq_true rfl) rfl ?_); intro W19 st20
  refine sx_nil ?_
  refine wp_seq ?_
  refine sx_region ?_
  refine rn st20 3 h18_ [] [(8, I x.run), (9, .pointer (some ⟨b11, 1, none⟩))] [qb 2 rfl 1] (by kernel_rfl) fun f22 h22_ => ?_
  refine sxn rfl rfl (stp_store_one (v := I x.run) (C' := [I x.kind, I x.run, I 0, I 0, I 0, I 0, .slice none 0 0, I 0, I 0, I 0, I 0]) (by kernel_rfl) (h22_.at 9) (h22_.at 8) rfl rfl st20 (Nat.le_of_ble_eq_true rfl) rfl ?_); intro W23 st24
  refine sx_nil ?_
  refine wp_seq ?_
  refine sx_region ?_
  refine sx rfl (stp_fieldAddr fa_DeedL_2 (h22_.at 1) ?_)
  refine sx rfl (stp_load_bxs (cs := [I x.plan.prio, I x.plan.most, I x.plan.wait, I x.plan.tasks, v17_0]) ld_PlanL rfl rfl (st24.get 2 rfl) rfl rfl ?_)
  refine sx rfl (stp_call1 Tryd.func29 rfl rfl ((toPlan_n W23 (show Shape.C _ [I x.plan.prio, I x.plan.most, I x.plan.wait, I x.plan.tasks, v17_0] x.plan _ from ⟨_, _, rfl, (by first | exact True.intro | (simp only [Edge.ok, Plan.ok, Entry.ok, Task.ok, Run.ok, Yard.ok, Reply.ok, Deed.ok, Note.ok, Wait.ok, File.ok, Disk.ok, Engine.ok, WorldD.ok, ActD.ok, Hand.ok, Span.ok, Crew.ok, View.ok, I64] at *; omega)), (h17_0.below st24.below), rfl⟩) (by first | exact hw | omega | (simp only [Plan.wt, Run.wt, Yard.wt, Deed.wt, Note.wt, File.wt, Disk.wt, Engine.wt, WorldD.wt, ActD.wt, Span.wt, Crew.wt] at *; omega))).mono ?_)); rintro _ W29 ⟨cs27, fp27, rfl, hk30⟩; refine ⟨_, rfl, ?_⟩
  have st31 := St.call st24 hk30
  refine sx rfl (stp_fieldAddr fa_Deed_2 (h22_.at 3) ?_)
  have hq_ := open_Plan st31
  obtain ⟨v35_0, g35_0, he35, hok35, st36⟩ := hq_
  subst he35
  refine sxn rfl rfl (stp_store_agg (cs := [I x.plan.prio, I x.plan.most, I x.plan.wait, I x.plan.tasks, v35_0]) (C' := [I x.kind, I x.run, I x.plan.prio, I x.plan.most, I x.plan.wait, I x.plan.tasks, v35_0, I 0, I 0, I 0, I 0]) (by kernel_rfl) rfl rfl (one_cons rfl (one_cons rfl (one_cons rfl (one_cons rfl (one_cons (Sl.one (own_Sl (st36.f1.get 1 rfl))) one_nil))))) st36.f1 (Nat.le_of_ble_eq_true rfl) rfl ?_); intro W39 st40
  refine sx_nil ?_
  refine wp_seq ?_
  refine sx_region ?_
  refine rn st40 3 h22_.put.put.put.put [] [(15, I x.task), (16, .pointer (some ⟨b11, 7, none⟩))] [qb 3 rfl 7] (by kernel_rfl) fun f42 h42_ => ?_
  refine sxn rfl rfl (stp_store_one (v := I x.task) (C' := [I x.kind, I x.run, I x.plan.prio, I x.plan.most, I x.plan.wait, I x.plan.tasks, v35_0, I x.task, I 0, I 0, I 0]) (by kernel_rfl) (h42_.at 16) (h42_.at 15) rfl rfl st40 (Nat.le_of_ble_eq_true rfl) rfl ?_); intro W43 st44
  refine sx_nil ?_
  refine wp_seq ?_
  refine sx_region ?_
  refine rn st44 3 h42_ [] [(18, I x.try_), (19, .pointer (some ⟨b11, 8, none⟩))] [qb 3 rfl 8] (by kernel_rfl) fun f46 h46_ => ?_
  refine sxn rfl rfl (stp_store_one (v := I x.try_) (C' := [I x.kind, I x.run, I x.plan.prio, I x.plan.most, I x.plan.wait, I x.plan.tasks, v35_0, I x.task, I x.try_, I 0, I 0]) (by kernel_rfl) (h46_.at 19) (h46_.at 18) rfl rfl st44 (Nat.le_of_ble_eq_true rfl) rfl ?_); intro W47 st48
  refine sx_nil ?_
  refine wp_seq ?_
  refine sx_region ?_
  refine lw h46_ [(1, .pointer (some ⟨b1, 0, none⟩)), (2, .pointer (some ⟨b6, 0, none⟩)), (3, .pointer (some ⟨b11, 0, none⟩))] (by kernel_rfl) fun h51_ => ?_
  refine rn st48 3 h51_ [] [(21, I x.worker), (22, .pointer (some ⟨b11, 9, none⟩))] [qb 3 rfl 9] (by kernel_rfl) fun f50 h50_ => ?_
  refine sxn rfl rfl (stp_store_one (v := I x.worker) (C' := [I x.kind, I x.run, I x.plan.prio, I x.plan.most, I x.plan.wait, I x.plan.tasks, v35_0, I x.task, I x.try_, I x.worker, I 0]) (by kernel_rfl) (h50_.at 22) (h50_.at 21) rfl rfl st48 (Nat.le_of_ble_eq_true rfl) rfl ?_); intro W52 st53
  refine sx_nil ?_
  refine wp_seq ?_
  refine sx_region ?_
  refine rn st53 3 h50_ [] [(24, I x.draw), (25, .pointer (some ⟨b11, 10, none⟩))] [qb 3 rfl 10] (by kernel_rfl) fun f55 h55_ => ?_
  refine sxn rfl rfl (stp_store_one (v := I x.draw) (C' := [I x.kind, I x.run, I x.plan.prio, I x.plan.most, I x.plan.wait, I x.plan.tasks, v35_0, I x.task, I x.try_, I x.worker, I x.draw]) (by kernel_rfl) (h55_.at 25) (h55_.at 24) rfl rfl st53 (Nat.le_of_ble_eq_true rfl) rfl ?_); intro W56 st57
  refine sx_nil ?_
  refine wp_seq ?_
  refine sx_region ?_
  refine sx rfl (stp_load_bxs (cs := [I x.kind, I x.run, I x.plan.prio, I x.plan.most, I x.plan.wait, I x.plan.tasks, v35_0, I x.task, I x.try_, I x.worker, I x.draw]) ld_Deed rfl (h55_.at 3) (st57.get 0 rfl) rfl rfl ?_)
  refine sxn rfl rfl (stp_store_agg (cs := [I x.kind, I x.run, I x.plan.prio, I x.plan.most, I x.plan.wait, I x.plan.tasks, v35_0, I x.task, I x.try_, I x.worker, I x.draw]) (C' := [I x.kind, I x.run, I x.plan.prio, I x.plan.most, I x.plan.wait, I x.plan.tasks, v35_0, I x.task, I x.try_, I x.worker, I x.draw]) (by kernel_rfl) (h55_.at 2) rfl (one_cons rfl (one_cons rfl (one_cons rfl (one_cons rfl (one_cons rfl (one_cons rfl (one_cons (Sl.one (own_Sl (st57.f2.get 2 rfl))) (one_cons rfl (one_cons rfl (one_cons rfl (one_cons rfl one_nil))))))))))) st57.f2 (Nat.le_of_ble_eq_true rfl) rfl ?_); intro W61 st62
  refine sx_nil ?_
  refine wr (retc1 ld_Deed rfl Tryd.results17 (h55_.at 2) (st62.get 0 rfl) rfl ?_)
  have st64 := shut_Deed (x := x) st62.f2 (by first | exact True.intro | (simp only [Edge.ok, Plan.ok, Entry.ok, Task.ok, Run.ok, Yard.ok, Reply.ok, Deed.ok, Note.ok, Wait.ok, File.ok, Disk.ok, Engine.ok, WorldD.ok, ActD.ok, Hand.ok, Span.ok, Crew.ok, View.ok, I64] at *; omega))
  exact ⟨_, _, rfl, st64.only 0 rfl⟩
end Go.Proofs.YtchnllpegfbleaaDoor

/-
  The laws' measures. (Printed by a program of this project's.)
-/
namespace Go.Proofs.YtchnllpegfbleaaDoor
set_option linter.unusedSimpArgs false
set_option linter.unusedVariables false
set_option maxRecDepth 100000
open Go.RowKit

theorem szL_lt {l : Int} {n : Nat} (h : szL l n < 0) (hl : 0 ≤ l) : l < n := by
  unfold szL at h; split at h <;> omega
theorem szL_ge {l : Int} {n : Nat} (h : ¬ szL l n < 0) (hl : 0 ≤ l) : (n : Int) ≤ l ∧ szL l n = l - n := by
  unfold szL at *; split at h <;> simp_all <;> omega

set_option maxHeartbeats 2000000 in
theorem szEdgeS_n (w : World) {v : Value} {xs : List Edge} {fp : List Nat} (h : Sl w v xs fp) (l : Int) (hl : 0 ≤ l) (hl2 : l ≤ 1048576) :
    Calls Tryd.prog 49 #[v, I l] w fun e w' => e = .returned (I (szL l xs.length)) ∧ St w w' [] := by
  have hcap := h.len_le
  refine enter2 Tryd.func49 rfl Tryd.ntmps49 (by decide) ?_
  refine wp_seq ?_
  refine sx_region ?_
  refine sx rfl (stp_assign (v := I 0) rfl ?_)
  refine sx_nil ?_
  refine wp_seq ?_
  refine sx_region ?_
  refine rn (St.start w) 5 Ag.nil.put.put.put [1] [(1, I (l - (xs.length : Int)))] [ql h, qsb l (xs.length : Int)] (by kernel_rfl) fun f4 h4_ => ?_
  refine sx_nil ?_
  refine wp_seq ?_
  refine wp_seq ?_
  refine sx_region ?_
  refine sx rfl (stp_move (v := I (l - (xs.length : Int))) (h4_.at 1) ?_)
  refine sx rfl (stp_lss rfl rfl ?_)
  refine sx_nil ?_
  refine sx_ifd rfl (fun h7p => ?_) (fun h7p => ?_)
  · skip
    refine wp_seq ?_
    refine sx_region ?_
    refine sx rfl (stp_assign (v := I (-1)) rfl ?_)
    refine sx_nil ?_
    refine wr (ret1 Tryd.results49 rfl ?_)
    exact ⟨fI (szL_t (by omega)).symm, (St.start w).bare⟩
  · skip
    refine wp_skip ?_
    refine wp_seq ?_
    refine sx_region ?_
    refine sx rfl (stp_move (v := I (l - (xs.length : Int))) (h4_.at 1) ?_)
    refine sx rfl (stp_assign (v := I (l - (xs.length : Int))) rfl ?_)
    refine sx_nil ?_
    refine wr (ret1 Tryd.results49 rfl ?_)
    exact ⟨fI (by rw [szL_f (by omega)]; try omega), (St.start w).bare⟩
set_option maxHeartbeats 2000000 in
theorem szPlan_n (w : World) {x : Plan} {cs : List Value} {fp : List Nat} (hc : Shape.C w cs x fp) (l : Int) (hl : 0 ≤ l) (hl2 : l ≤ 1048576) :
    Calls Tryd.prog 26 #[.agg cs.toArray, I l] w fun e w' => e = .returned (I (szL l x.wt)) ∧ St w w' [] := by
  have hwt : x.wt = x.edges.length := rfl
  refine enter2 Tryd.func26 rfl Tryd.ntmps26 (by decide) ?_
  refine wp_seq ?_
  refine sx_region ?_
  refine sx rfl (stp_box_agg (cs := cs) rfl (St.start w) ?_); intro b1 W2 hb3 st4
  refine sx rfl (stp_assign (v := I 0) rfl ?_)
  refine sx_nil ?_
  refine wp_seq ?_
  refine sx_region ?_
  have hk9 := hc
  obtain ⟨v9_0, g9_0, rfl, hok9, h9_0, rfl⟩ := hk9
  refine rc st4 5 Ag.nil.put.put.put.put [1] [(1, I (szL l x.edges.length))] [qb 0 rfl 4, qc Tryd.func49 rfl (fun W s b => szEdgeS_n W (h9_0.below s.below) l (by omega) (by omega))] (by kernel_rfl) fun f10 W11 h10_ st12 hb13 => ?_
  refine sx_nil ?_
  refine wp_seq ?_
  refine wp_seq ?_
  refine sx_region ?_
  refine sx rfl (stp_move (v := I (szL l x.edges.length)) (h10_.at 1) ?_)
  refine sx rfl (stp_lss rfl rfl ?_)
  refine sx_nil ?_
  refine sx_ifd rfl (fun h16p => ?_) (fun h16p => ?_)
  · skip
    have h16q := szL_lt h16p (by omega)
    refine wp_seq ?_
    refine sx_region ?_
    refine sx rfl (stp_assign (v := I (-1)) rfl ?_)
    refine sx_nil ?_
    refine wr (ret1 Tryd.results26 rfl ?_)
    exact ⟨fI (szL_t (by omega)).symm, st12.bare⟩
  · skip
    have h16q := szL_ge h16p (by omega)
    refine wp_skip ?_
    refine wp_seq ?_
    refine sx_region ?_
    refine sx rfl (stp_move (v := I (szL l x.edges.length)) (h10_.at 1) ?_)
    refine sx rfl (stp_assign (v := I (szL l x.edges.length)) rfl ?_)
    refine sx_nil ?_
    refine wr (ret1 Tryd.results26 rfl ?_)
    exact ⟨fI (by rw [szL_f (n := x.wt) (by omega)]; try omega), st12.bare⟩
set_option maxHeartbeats 2000000 in
theorem szTaskS_n (w : World) {v : Value} {xs : List Task} {fp : List Nat} (h : Sl w v xs fp) (l : Int) (hl : 0 ≤ l) (hl2 : l ≤ 1048576) :
    Calls Tryd.prog 27 #[v, I l] w fun e w' => e = .returned (I (szL l xs.length)) ∧ St w w' [] := by
  have hcap := h.len_le
  refine enter2 Tryd.func27 rfl Tryd.ntmps27 (by decide) ?_
  refine wp_seq ?_
  refine sx_region ?_
  refine sx rfl (stp_assign (v := I 0) rfl ?_)
  refine sx_nil ?_
  refine wp_seq ?_
  refine sx_region ?_
  refine rn (St.start w) 5 Ag.nil.put.put.put [1] [(1, I (l - (xs.length : Int)))] [ql h, qsb l (xs.length : Int)] (by kernel_rfl) fun f4 h4_ => ?_
  refine sx_nil ?_
  refine wp_seq ?_
  refine wp_seq ?_
  refine sx_region ?_
  refine sx rfl (stp_move (v := I (l - (xs.length : Int))) (h4_.at 1) ?_)
  refine sx rfl (stp_lss rfl rfl ?_)
  refine sx_nil ?_
  refine sx_ifd rfl (fun h7p => ?_) (fun h7p => ?_)
  · skip
    refine wp_seq ?_
    refine sx_region ?_
    refine sx rfl (stp_assign (v := I (-1)) rfl ?_)
    refine sx_nil ?_
    refine wr (ret1 Tryd.results27 rfl ?_)
    exact ⟨fI (szL_t (by omega)).symm, (St.start w).bare⟩
  · skip
    refine wp_skip ?_
    refine wp_seq ?_
    refine sx_region ?_
    refine sx rfl (stp_move (v := I (l - (xs.length : Int))) (h4_.at 1) ?_)
    refine sx rfl (stp_assign (v := I (l - (xs.length : Int))) rfl ?_)
    refine sx_nil ?_
    refine wr (ret1 Tryd.results27 rfl ?_)
    exact ⟨fI (by rw [szL_f (by omega)]; try omega), (St.start w).bare⟩
set_option maxHeartbeats 2000000 in
theorem szRun_n (w : World) {x : Run} {cs : List Value} {fp : List Nat} (hc : Shape.C w cs x fp) (l : Int) (hl : 0 ≤ l) (hl2 : l ≤ 1048576) :
    Calls Tryd.prog 10 #[.agg cs.toArray, I l] w fun e w' => e = .returned (I (szL l x.wt)) ∧ St w w' [] := by
  have hwt : x.wt = x.plan.wt + x.tasks.length := rfl
  refine enter2 Tryd.func10 rfl Tryd.ntmps10 (by decide) ?_
  refine wp_seq ?_
  refine sx_region ?_
  refine sx rfl (stp_box_agg (cs := cs) rfl (St.start w) ?_); intro b1 W2 hb3 st4
  refine sx rfl (stp_assign (v := I 0) rfl ?_)
  refine sx_nil ?_
  refine wp_seq ?_
  refine sx_region ?_
  have hk9 := hc
  obtain ⟨v9_0, v9_1, g9_0, g9_1, rfl, hok9, h9_0, h9_1, rfl⟩ := hk9
  refine rc st4 5 Ag.nil.put.put.put.put [1] [(1, I (szL l x.plan.wt))] [qb 0 rfl 1, qc Tryd.func26 rfl (fun W s b => szPlan_n W (show Shape.C _ [I x.plan.prio, I x.plan.most, I x.plan.wait, I x.plan.tasks, v9_0] x.plan _ from ⟨_, _, rfl, (by first | exact True.intro | (simp only [Edge.ok, Plan.ok, Entry.ok, Task.ok, Run.ok, Yard.ok, Reply.ok, Deed.ok, Note.ok, Wait.ok, File.ok, Disk.ok, Engine.ok, WorldD.ok, ActD.ok, Hand.ok, Span.ok, Crew.ok, View.ok, I64] at *; omega)), (h9_0.below s.below), rfl⟩) l (by omega) (by omega))] (by kernel_rfl) fun f10 W11 h10_ st12 hb13 => ?_
  refine sx_nil ?_
  refine wp_seq ?_
  refine wp_seq ?_
  refine sx_region ?_
  refine sx rfl (stp_move (v := I (szL l x.plan.wt)) (h10_.at 1) ?_)
  refine sx rfl (stp_lss rfl rfl ?_)
  refine sx_nil ?_
  refine sx_ifd rfl (fun h16p => ?_) (fun h16p => ?_)
  · skip
    have h16q := szL_lt h16p (by omega)
    refine wp_seq ?_
    refine sx_region ?_
    refine sx rfl (stp_assign (v := I (-1)) rfl ?_)
    refine sx_nil ?_
    refine wr (ret1 Tryd.results10 rfl ?_)
    exact ⟨fI (szL_t (by omega)).symm, st12.bare⟩
  · skip
    have h16q := szL_ge h16p (by omega)
    refine wp_skip ?_
    refine wp_seq ?_
    refine sx_region ?_
    refine rc st12 5 h10_.put.put [1] [(1, I (szL (szL l x.plan.wt) x.tasks.length))] [qb 0 rfl 7, qc Tryd.func27 rfl (fun W s b => szTaskS_n W (h9_1.below s.below) (szL l x.plan.wt) (by omega) (by omega))] (by kernel_rfl) fun f20 W21 h20_ st22 hb23 => ?_
    refine sx_nil ?_
    refine wp_seq ?_
    refine wp_seq ?_
    refine sx_region ?_
    refine sx rfl (stp_move (v := I (szL (szL l x.plan.wt) x.tasks.length)) (h20_.at 1) ?_)
    refine sx rfl (stp_lss rfl rfl ?_)
    refine sx_nil ?_
    refine sx_ifd rfl (fun h26p => ?_) (fun h26p => ?_)
    · skip
      have h26q := szL_lt h26p (by omega)
      refine wp_seq ?_
      refine sx_region ?_
      refine sx rfl (stp_assign (v := I (-1)) rfl ?_)
      refine sx_nil ?_
      refine wr (ret1 Tryd.results10 rfl ?_)
      exact ⟨fI (szL_t (by omega)).symm, st22.bare⟩
    · skip
      have h26q := szL_ge h26p (by omega)
      refine wp_skip ?_
      refine wp_seq ?_
      refine sx_region ?_
      refine sx rfl (stp_move (v := I (szL (szL l x.plan.wt) x.tasks.length)) (h20_.at 1) ?_)
      refine sx rfl (stp_assign (v := I (szL (szL l x.plan.wt) x.tasks.length)) rfl ?_)
      refine sx_nil ?_
      refine wr (ret1 Tryd.results10 rfl ?_)
      exact ⟨fI (by rw [szL_f (n := x.wt) (by omega)]; try omega), st22.bare⟩
set_option maxHeartbeats 2000000 in
theorem szDeed_n (w : World) {x : Deed} {cs : List Value} {fp : List Nat} (hc : Shape.C w cs x fp) (l : Int) (hl : 0 ≤ l) (hl2 : l ≤ 1048576) :
    Calls Tryd.prog 15 #[.agg cs.toArray, I l] w fun e w' => e = .returned (I (szL l x.wt)) ∧ St w w' [] := by
  have hwt : x.wt = x.plan.wt := rfl
  refine enter2 Tryd.func15 rfl Tryd.ntmps15 (by decide) ?_
  refine wp_seq ?_
  refine sx_region ?_
  refine sx rfl (stp_box_agg (cs := cs) rfl (St.start w) ?_); intro b1 W2 hb3 st4
  refine sx rfl (stp_assign (v := I 0) rfl ?_)
  refine sx_nil ?_
  refine wp_seq ?_
  refine sx_region ?_
  have hk9 := hc
  obtain ⟨v9_0, g9_0, rfl, hok9, h9_0, rfl⟩ := hk9
  refine rc st4 5 Ag.nil.put.put.put.put [1] [(1, I (szL l x.plan.wt))] [qb 0 rfl 2, qc Tryd.func26 rfl (fun W s b => szPlan_n W (show Shape.C _ [I x.plan.prio, I x.plan.most, I x.plan.wait, I x.plan.tasks, v9_0] x.plan _ from ⟨_, _, rfl, (by first | exact True.intro | (simp only [Edge.ok, Plan.ok, Entry.ok, Task.ok, Run.ok, Yard.ok, Reply.ok, Deed.ok, Note.ok, Wait.ok, File.ok, Disk.ok, Engine.ok, WorldD.ok, ActD.ok, Hand.ok, Span.ok, Crew.ok, View.ok, I64] at *; omega)), (h9_0.below s.below), rfl⟩) l (by omega) (by omega))] (by kernel_rfl) fun f10 W11 h10_ st12 hb13 => ?_
  refine sx_nil ?_
  refine wp_seq ?_
  refine wp_seq ?_
  refine sx_region ?_
  refine sx rfl (stp_move (v := I (szL l x.plan.wt)) (h10_.at 1) ?_)
  refine sx rfl (stp_lss rfl rfl ?_)
  refine sx_nil ?_
  refine sx_ifd rfl (fun h16p => ?_) (fun h16p => ?_)
  · skip
    have h16q := szL_lt h16p (by omega)
    refine wp_seq ?_
    refine sx_region ?_
    refine sx rfl (stp_assign (v := I (-1)) rfl ?_)
    refine sx_nil ?_
    refine wr (ret1 Tryd.results15 rfl ?_)
    exact ⟨fI (szL_t (by omega)).symm, st12.bare⟩
  · skip
    have h16q := szL_ge h16p (by omega)
    refine wp_skip ?_
    refine wp_seq ?_
    refine sx_region ?_
    refine sx rfl (stp_move (v := I (szL l x.plan.wt)) (h10_.at 1) ?_)
    refine sx rfl (stp_assign (v := I (szL l x.plan.wt)) rfl ?_)
    refine sx_nil ?_
    refine wr (ret1 Tryd.results15 rfl ?_)
    exact ⟨fI (by rw [szL_f (n := x.wt) (by omega)]; try omega), st12.bare⟩
end Go.Proofs.YtchnllpegfbleaaDoor

/-
  markText. (Printed by a program of this project's.)
-/
namespace Go.Proofs.YtchnllpegfbleaaDoor
set_option linter.unusedSimpArgs false
set_option linter.unusedVariables false
set_option maxRecDepth 100000
open Go.RowKit


def dch (k : Nat) : ByteArray := ⟨#[UInt8.ofNat (48 + k % 10)]⟩
/-- Figures ahead of a text. -/
def figs (k : Nat) (out : ByteArray) : ByteArray := if h : k = 0 then out else figs (k / 10) (dch k ++ out)
termination_by k
decreasing_by omega
theorem figs_0 (out : ByteArray) : figs 0 out = out := by rw [figs]; simp
theorem figs_s {k : Nat} (h : 0 < k) (out : ByteArray) : figs k out = figs (k / 10) (dch k ++ out) := by
  conv => lhs; rw [figs]
  rw [dif_neg (by omega)]
theorem figs_size : ∀ (k : Nat) (out : ByteArray), (figs k out).size ≤ k + out.size := by
  intro k
  induction k using Nat.strongRecOn with
  | _ k ih =>
    intro out
    by_cases h : k = 0
    · subst h; rw [figs_0]; omega
    · rw [figs_s (by omega)]
      have := ih (k / 10) (by omega) (dch k ++ out)
      rw [ByteArray.size_append] at this
      have e : (dch k).size = 1 := rfl
      omega
def bM : ByteArray := ⟨#[109]⟩
def bM0 : ByteArray := ⟨#[109, 48]⟩
def mtext (k : Int) : ByteArray := if k ≤ 0 then bM0 else bM ++ figs k.toNat ⟨#[]⟩

theorem dch_eq (K : Nat) : (⟨#[UInt8.ofNat (48 + (K : Int) % 10).toNat]⟩ : ByteArray) = dch K := by
  have : (48 + (K : Int) % 10).toNat = 48 + K % 10 := by omega
  rw [this]; rfl
theorem mtext_size {k : Int} (h : k ≤ 4611686018427387904) : (mtext k).size ≤ maxLen := by
  unfold mtext maxLen
  split
  · show 2 ≤ _; omega
  · rw [ByteArray.size_append]
    have := figs_size k.toNat ⟨#[]⟩
    have e1 : bM.size = 1 := rfl
    have e2 : (⟨#[]⟩ : ByteArray).size = 0 := rfl
    omega
theorem size_app (a b : ByteArray) : (a ++ b).size = a.size + b.size := ByteArray.size_append


end Go.Proofs.YtchnllpegfbleaaDoor

/-
  The laws' marks: what is written. (Printed by a program of this project's.)
-/
namespace Go.Proofs.YtchnllpegfbleaaDoor
set_option linter.unusedSimpArgs false
set_option linter.unusedVariables false
set_option maxRecDepth 100000
open Go.RowKit


/-- Elements are marked one behind the other; each takes as many numbers as it has places. -/
def mkL {α : Type} (f : α → Int → α) (n : α → Nat) : List α → Int → List α
  | [], _ => []
  | x :: xs, k => f x k :: mkL f n xs (k + (n x : Nat))
def cL {α : Type} (n : α → Nat) (xs : List α) : Nat := (xs.map n).sum
section
variable {α : Type} {f : α → Int → α} {n : α → Nat}
theorem mkL_len : ∀ (xs : List α) (k : Int), (mkL f n xs k).length = xs.length
  | [], _ => rfl
  | x :: xs, k => by simp [mkL, mkL_len xs]
theorem cL_take (n : α → Nat) (xs : List α) (i : Nat) (h : i < xs.length) : cL n (xs.take (i + 1)) = cL n (xs.take i) + n xs[i] := wtL_take n xs i h
theorem cL_take_le (n : α → Nat) (xs : List α) (i : Nat) : cL n (xs.take i) ≤ cL n xs := wtL_take_le n xs i
theorem cL_all (n : α → Nat) (xs : List α) (i : Nat) (h : i = xs.length) : cL n (xs.take i) = cL n xs := by subst h; rw [List.take_length]
theorem mkL_append : ∀ (xs ys : List α) (k : Int), mkL f n (xs ++ ys) k = mkL f n xs k ++ mkL f n ys (k + (cL n xs : Nat))
  | [], ys, k => by simp [mkL, cL]
  | x :: xs, ys, k => by
    simp only [List.cons_append, mkL, mkL_append xs ys, cL, List.map_cons, List.sum_cons]
    congr 3
    push_cast; omega
theorem mk_get? {xs : List α} {k : Int} {i : Nat} (h : i < xs.length) : (mkL f n (xs.take i) k ++ xs.drop i)[i]? = some xs[i] := by
  have hl : (mkL f n (xs.take i) k).length = i := by rw [mkL_len, List.length_take]; omega
  rw [List.getElem?_append_right (by omega), hl, Nat.sub_self, List.getElem?_drop, Nat.add_zero, List.getElem?_eq_getElem h]
theorem mk_step {xs : List α} {k K : Int} {i : Nat} (h : i < xs.length) (hK : K = k + (cL n (xs.take i) : Nat)) : (mkL f n (xs.take i) k ++ xs.drop i).set i (f xs[i] K) = mkL f n (xs.take (i + 1)) k ++ xs.drop (i + 1) := by
  have hl : (mkL f n (xs.take i) k).length = i := by rw [mkL_len, List.length_take]; omega
  rw [List.set_append_right _ _ (by omega), hl, Nat.sub_self, List.drop_eq_getElem_cons h, List.set_cons_zero, List.take_succ_eq_append_getElem h, mkL_append, List.append_assoc]
  subst hK
  rfl
theorem mk_all {xs : List α} {k : Int} {i : Nat} (h : i = xs.length) : mkL f n (xs.take i) k ++ xs.drop i = mkL f n xs k := by subst h; simp
theorem mk_get {xs : List α} {k : Int} {i : Nat} (h : i < xs.length) : (mkL f n xs k)[i]? = some (f xs[i] (k + (cL n (xs.take i) : Nat))) := by
  have e : xs = xs.take i ++ xs.drop i := by simp
  have hl : (mkL f n (xs.take i) k).length = i := by rw [mkL_len, List.length_take]; omega
  conv => lhs; rw [e, mkL_append]
  rw [List.getElem?_append_right (by omega), hl, Nat.sub_self, List.drop_eq_getElem_cons h]
  rfl
theorem idxm [Shape α] {w : World} {v : Value} {xs : List α} {fp : List Nat} {k K : Int} (hs : Sl w v (mkL f n xs k) fp) {i : Nat} (hi : i < xs.length) (hK : K = k + (cL n (xs.take i) : Nat)) : ∃ b o cs f1, PA v (Shape.size α) i b o ∧ w.rangeAt b o cs ∧ Shape.C w cs (f xs[i] K) f1 ∧ ∀ c ∈ b :: f1, c ∈ fp := by
  obtain ⟨b, o, cs, f1, h1, h2, h3, h4⟩ := idx hs (i := i) (by rw [mkL_len]; exact hi)
  refine ⟨b, o, cs, f1, h1, h2, ?_, h4⟩
  have := mk_get (f := f) (n := n) (xs := xs) (k := k) hi
  obtain ⟨hl, he⟩ := List.getElem?_eq_some_iff.1 this
  rw [he, ← hK] at h3
  exact h3
end
section
variable {α : Type} {f : α → Int → α} {n : α → Nat}
theorem cL_takey (n : α → Nat) {xs : List α} {i : Nat} {y : α} (h : xs[i]? = some y) : cL n (xs.take (i + 1)) = cL n (xs.take i) + n y := by
  obtain ⟨hl, rfl⟩ := List.getElem?_eq_some_iff.1 h
  exact cL_take n xs i hl
theorem mk_gety {xs : List α} {k : Int} {i : Nat} {y : α} (h : xs[i]? = some y) : (mkL f n (xs.take i) k ++ xs.drop i)[i]? = some y := by
  obtain ⟨hl, rfl⟩ := List.getElem?_eq_some_iff.1 h
  exact mk_get? hl
theorem mk_stepy {xs : List α} {k K : Int} {i : Nat} {y : α} (h : xs[i]? = some y) (hK : K = k + (cL n (xs.take i) : Nat)) : (mkL f n (xs.take i) k ++ xs.drop i).set i (f y K) = mkL f n (xs.take (i + 1)) k ++ xs.drop (i + 1) := by
  obtain ⟨hl, rfl⟩ := List.getElem?_eq_some_iff.1 h
  exact mk_step hl hK
theorem idxmy [Shape α] {w : World} {v : Value} {xs : List α} {fp : List Nat} {k K : Int} {y : α} (hs : Sl w v (mkL f n xs k) fp) {i : Nat} (hi : xs[i]? = some y) (hK : K = k + (cL n (xs.take i) : Nat)) : ∃ b o cs f1, PA v (Shape.size α) i b o ∧ w.rangeAt b o cs ∧ Shape.C w cs (f y K) f1 ∧ ∀ c ∈ b :: f1, c ∈ fp := by
  obtain ⟨hl, rfl⟩ := List.getElem?_eq_some_iff.1 hi
  exact idxm hs hl hK
end
theorem some_at {α : Type} {xs : List α} {i : Nat} (h : i < xs.length) : ∃ y, xs[i]? = some y := ⟨_, List.getElem?_eq_getElem h⟩
/-- A number with room for r more. -/
def Bd (x : Int) (r : Nat) : Prop := 0 ≤ x ∧ x + r ≤ 4611686018427387904
theorem Bd.up {x : Int} {r : Nat} (h : Bd x (1 + r)) : Bd (x + 1) r := by unfold Bd at *; omega
theorem Bd.upc {x : Int} {c r : Nat} (h : Bd x (c + r)) : Bd (x + (c : Nat)) r := by unfold Bd at *; omega
theorem Bd.i64 {x : Int} {r : Nat} (h : Bd x r) : I64 x := by unfold Bd I64 at *; omega
theorem Bd.lo {x : Int} {r : Nat} (h : Bd x r) : 0 ≤ x := h.1
theorem Bd.hi {x : Int} {c r : Nat} (h : Bd x (c + r)) : x + (c : Nat) ≤ 4611686018427387904 := by unfold Bd at *; omega
def neI {α : Type} (_ : α) : Nat := 1
def mkI (_ : Int) (k : Int) : Int := k
def mkS (_ : ByteArray) (k : Int) : ByteArray := mtext k

def neE_Edge (x : Edge) : Nat := 2
def mkE_Edge (x : Edge) (k : Int) : Edge := ⟨k, k + 1⟩

def neE_Plan (x : Plan) : Nat := 4 + cL neE_Edge x.edges
def mkE_Plan (x : Plan) (k : Int) : Plan := ⟨k, k + 1, (k + 1) + 1, ((k + 1) + 1) + 1, mkL mkE_Edge neE_Edge x.edges ((((k + 1) + 1) + 1) + 1)⟩

def ntT_Plan (x : Plan) : Nat := cL neE_Edge x.edges
def mkT_Plan (x : Plan) (k : Int) : Plan := ⟨x.prio, x.most, x.wait, x.tasks, mkL mkE_Edge neE_Edge x.edges k⟩

def neE_Entry (x : Entry) : Nat := 4
def mkE_Entry (x : Entry) (k : Int) : Entry := ⟨k, k + 1, (k + 1) + 1, ((k + 1) + 1) + 1⟩

def neE_Task (x : Task) : Nat := 4
def mkE_Task (x : Task) (k : Int) : Task := ⟨k, k + 1, (k + 1) + 1, ((k + 1) + 1) + 1⟩

def neE_Run (x : Run) : Nat := 6 + cL neE_Edge x.plan.edges + cL neE_Task x.tasks
def mkE_Run (x : Run) (k : Int) : Run := ⟨k, ⟨k + 1, (k + 1) + 1, ((k + 1) + 1) + 1, (((k + 1) + 1) + 1) + 1, mkL mkE_Edge neE_Edge x.plan.edges (((((k + 1) + 1) + 1) + 1) + 1)⟩, (((((k + 1) + 1) + 1) + 1) + 1) + (cL neE_Edge x.plan.edges : Nat), mkL mkE_Task neE_Task x.tasks (((((((k + 1) + 1) + 1) + 1) + 1) + (cL neE_Edge x.plan.edges : Nat)) + 1)⟩

def ntT_Run (x : Run) : Nat := ntT_Plan x.plan + cL neE_Task x.tasks
def mkT_Run (x : Run) (k : Int) : Run := ⟨x.id, mkT_Plan x.plan k, x.state, mkL mkE_Task neE_Task x.tasks (k + (ntT_Plan x.plan : Nat))⟩

def neE_Yard (x : Yard) : Nat := 2 + cL (cL neE_Entry) x.shelf + cL neE_Run x.runs
def mkE_Yard (x : Yard) (k : Int) : Yard := ⟨k, k + 1, mkL (mkL mkE_Entry neE_Entry) (cL neE_Entry) x.shelf ((k + 1) + 1), mkL mkE_Run neE_Run x.runs (((k + 1) + 1) + (cL (cL neE_Entry) x.shelf : Nat))⟩

def ntT_Yard (x : Yard) : Nat := cL (cL neE_Entry) x.shelf + cL neE_Run x.runs
def mkT_Yard (x : Yard) (k : Int) : Yard := ⟨x.now, x.seq, mkL (mkL mkE_Entry neE_Entry) (cL neE_Entry) x.shelf k, mkL mkE_Run neE_Run x.runs (k + (cL (cL neE_Entry) x.shelf : Nat))⟩

def neE_Reply (x : Reply) : Nat := 4
def mkE_Reply (x : Reply) (k : Int) : Reply := ⟨k, k + 1, (k + 1) + 1, ((k + 1) + 1) + 1⟩

def neE_Deed (x : Deed) : Nat := 10 + cL neE_Edge x.plan.edges
def mkE_Deed (x : Deed) (k : Int) : Deed := ⟨k, k + 1, ⟨(k + 1) + 1, ((k + 1) + 1) + 1, (((k + 1) + 1) + 1) + 1, ((((k + 1) + 1) + 1) + 1) + 1, mkL mkE_Edge neE_Edge x.plan.edges ((((((k + 1) + 1) + 1) + 1) + 1) + 1)⟩, ((((((k + 1) + 1) + 1) + 1) + 1) + 1) + (cL neE_Edge x.plan.edges : Nat), (((((((k + 1) + 1) + 1) + 1) + 1) + 1) + (cL neE_Edge x.plan.edges : Nat)) + 1, ((((((((k + 1) + 1) + 1) + 1) + 1) + 1) + (cL neE_Edge x.plan.edges : Nat)) + 1) + 1, (((((((((k + 1) + 1) + 1) + 1) + 1) + 1) + (cL neE_Edge x.plan.edges : Nat)) + 1) + 1) + 1⟩

def ntT_Deed (x : Deed) : Nat := ntT_Plan x.plan
def mkT_Deed (x : Deed) (k : Int) : Deed := ⟨x.kind, x.run, mkT_Plan x.plan k, x.task, x.try_, x.worker, x.draw⟩

def neE_Note (x : Note) : Nat := 11 + cL neE_Edge x.deed.plan.edges
def mkE_Note (x : Note) (k : Int) : Note := ⟨k, ⟨k + 1, (k + 1) + 1, ⟨((k + 1) + 1) + 1, (((k + 1) + 1) + 1) + 1, ((((k + 1) + 1) + 1) + 1) + 1, (((((k + 1) + 1) + 1) + 1) + 1) + 1, mkL mkE_Edge neE_Edge x.deed.plan.edges (((((((k + 1) + 1) + 1) + 1) + 1) + 1) + 1)⟩, (((((((k + 1) + 1) + 1) + 1) + 1) + 1) + 1) + (cL neE_Edge x.deed.plan.edges : Nat), ((((((((k + 1) + 1) + 1) + 1) + 1) + 1) + 1) + (cL neE_Edge x.deed.plan.edges : Nat)) + 1, (((((((((k + 1) + 1) + 1) + 1) + 1) + 1) + 1) + (cL neE_Edge x.deed.plan.edges : Nat)) + 1) + 1, ((((((((((k + 1) + 1) + 1) + 1) + 1) + 1) + 1) + (cL neE_Edge x.deed.plan.edges : Nat)) + 1) + 1) + 1⟩⟩

def ntT_Note (x : Note) : Nat := ntT_Deed x.deed
def mkT_Note (x : Note) (k : Int) : Note := ⟨x.seq, mkT_Deed x.deed k⟩

def neE_Wait (x : Wait) : Nat := 5
def mkE_Wait (x : Wait) (k : Int) : Wait := ⟨k, ⟨k + 1, (k + 1) + 1, ((k + 1) + 1) + 1, (((k + 1) + 1) + 1) + 1⟩⟩

def neE_File (x : File) : Nat := 3
def mkE_File (x : File) (k : Int) : File := ⟨mtext k, mtext (k + 1), (k + 1) + 1⟩

def neE_Disk (x : Disk) : Nat := 0 + cL neE_File x.files
def mkE_Disk (x : Disk) (k : Int) : Disk := ⟨mkL mkE_File neE_File x.files k⟩

def ntT_Disk (x : Disk) : Nat := cL neE_File x.files
def mkT_Disk (x : Disk) (k : Int) : Disk := ⟨mkL mkE_File neE_File x.files k⟩

def neE_Engine (x : Engine) : Nat := 5 + cL (cL neE_Entry) x.yard.shelf + cL neE_Run x.yard.runs + cL neE_File x.disk.files + cL neE_Wait x.waits
def mkE_Engine (x : Engine) (k : Int) : Engine := ⟨⟨k, k + 1, mkL (mkL mkE_Entry neE_Entry) (cL neE_Entry) x.yard.shelf ((k + 1) + 1), mkL mkE_Run neE_Run x.yard.runs (((k + 1) + 1) + (cL (cL neE_Entry) x.yard.shelf : Nat))⟩, ⟨mkL mkE_File neE_File x.disk.files ((((k + 1) + 1) + (cL (cL neE_Entry) x.yard.shelf : Nat)) + (cL neE_Run x.yard.runs : Nat))⟩, ((((k + 1) + 1) + (cL (cL neE_Entry) x.yard.shelf : Nat)) + (cL neE_Run x.yard.runs : Nat)) + (cL neE_File x.disk.files : Nat), (((((k + 1) + 1) + (cL (cL neE_Entry) x.yard.shelf : Nat)) + (cL neE_Run x.yard.runs : Nat)) + (cL neE_File x.disk.files : Nat)) + 1, mkL mkE_Wait neE_Wait x.waits (((((((k + 1) + 1) + (cL (cL neE_Entry) x.yard.shelf : Nat)) + (cL neE_Run x.yard.runs : Nat)) + (cL neE_File x.disk.files : Nat)) + 1) + 1), (((((((k + 1) + 1) + (cL (cL neE_Entry) x.yard.shelf : Nat)) + (cL neE_Run x.yard.runs : Nat)) + (cL neE_File x.disk.files : Nat)) + 1) + 1) + (cL neE_Wait x.waits : Nat), x.broken⟩

def ntT_Engine (x : Engine) : Nat := ntT_Yard x.yard + ntT_Disk x.disk + cL neE_Wait x.waits
def mkT_Engine (x : Engine) (k : Int) : Engine := ⟨mkT_Yard x.yard k, mkT_Disk x.disk (k + (ntT_Yard x.yard : Nat)), x.next, x.calls, mkL mkE_Wait neE_Wait x.waits ((k + (ntT_Yard x.yard : Nat)) + (ntT_Disk x.disk : Nat)), x.state, x.broken⟩

def neE_World (x : WorldD) : Nat := 7 + cL (cL neE_Entry) x.engine.yard.shelf + cL neE_Run x.engine.yard.runs + cL neE_File x.engine.disk.files + cL neE_Wait x.engine.waits + cL neE_Deed x.deeds + cL neE_Reply x.replies
def mkE_World (x : WorldD) (k : Int) : WorldD := ⟨⟨⟨k, k + 1, mkL (mkL mkE_Entry neE_Entry) (cL neE_Entry) x.engine.yard.shelf ((k + 1) + 1), mkL mkE_Run neE_Run x.engine.yard.runs (((k + 1) + 1) + (cL (cL neE_Entry) x.engine.yard.shelf : Nat))⟩, ⟨mkL mkE_File neE_File x.engine.disk.files ((((k + 1) + 1) + (cL (cL neE_Entry) x.engine.yard.shelf : Nat)) + (cL neE_Run x.engine.yard.runs : Nat))⟩, ((((k + 1) + 1) + (cL (cL neE_Entry) x.engine.yard.shelf : Nat)) + (cL neE_Run x.engine.yard.runs : Nat)) + (cL neE_File x.engine.disk.files : Nat), (((((k + 1) + 1) + (cL (cL neE_Entry) x.engine.yard.shelf : Nat)) + (cL neE_Run x.engine.yard.runs : Nat)) + (cL neE_File x.engine.disk.files : Nat)) + 1, mkL mkE_Wait neE_Wait x.engine.waits (((((((k + 1) + 1) + (cL (cL neE_Entry) x.engine.yard.shelf : Nat)) + (cL neE_Run x.engine.yard.runs : Nat)) + (cL neE_File x.engine.disk.files : Nat)) + 1) + 1), (((((((k + 1) + 1) + (cL (cL neE_Entry) x.engine.yard.shelf : Nat)) + (cL neE_Run x.engine.yard.runs : Nat)) + (cL neE_File x.engine.disk.files : Nat)) + 1) + 1) + (cL neE_Wait x.engine.waits : Nat), x.engine.broken⟩, mkL mkE_Deed neE_Deed x.deeds (((((((((k + 1) + 1) + (cL (cL neE_Entry) x.engine.yard.shelf : Nat)) + (cL neE_Run x.engine.yard.runs : Nat)) + (cL neE_File x.engine.disk.files : Nat)) + 1) + 1) + (cL neE_Wait x.engine.waits : Nat)) + 1), mkL mkE_Reply neE_Reply x.replies ((((((((((k + 1) + 1) + (cL (cL neE_Entry) x.engine.yard.shelf : Nat)) + (cL neE_Run x.engine.yard.runs : Nat)) + (cL neE_File x.engine.disk.files : Nat)) + 1) + 1) + (cL neE_Wait x.engine.waits : Nat)) + 1) + (cL neE_Deed x.deeds : Nat)), ((((((((((k + 1) + 1) + (cL (cL neE_Entry) x.engine.yard.shelf : Nat)) + (cL neE_Run x.engine.yard.runs : Nat)) + (cL neE_File x.engine.disk.files : Nat)) + 1) + 1) + (cL neE_Wait x.engine.waits : Nat)) + 1) + (cL neE_Deed x.deeds : Nat)) + (cL neE_Reply x.replies : Nat), (((((((((((k + 1) + 1) + (cL (cL neE_Entry) x.engine.yard.shelf : Nat)) + (cL neE_Run x.engine.yard.runs : Nat)) + (cL neE_File x.engine.disk.files : Nat)) + 1) + 1) + (cL neE_Wait x.engine.waits : Nat)) + 1) + (cL neE_Deed x.deeds : Nat)) + (cL neE_Reply x.replies : Nat)) + 1⟩

def ntT_World (x : WorldD) : Nat := ntT_Engine x.engine + cL neE_Deed x.deeds + cL neE_Reply x.replies
def mkT_World (x : WorldD) (k : Int) : WorldD := ⟨mkT_Engine x.engine k, mkL mkE_Deed neE_Deed x.deeds (k + (ntT_Engine x.engine : Nat)), mkL mkE_Reply neE_Reply x.replies ((k + (ntT_Engine x.engine : Nat)) + (cL neE_Deed x.deeds : Nat)), x.told, x.fell⟩

def neE_Act (x : ActD) : Nat := 12 + cL neE_Edge x.deed.plan.edges + cL neI x.keep
def mkE_Act (x : ActD) (k : Int) : ActD := ⟨k, ⟨k + 1, (k + 1) + 1, ⟨((k + 1) + 1) + 1, (((k + 1) + 1) + 1) + 1, ((((k + 1) + 1) + 1) + 1) + 1, (((((k + 1) + 1) + 1) + 1) + 1) + 1, mkL mkE_Edge neE_Edge x.deed.plan.edges (((((((k + 1) + 1) + 1) + 1) + 1) + 1) + 1)⟩, (((((((k + 1) + 1) + 1) + 1) + 1) + 1) + 1) + (cL neE_Edge x.deed.plan.edges : Nat), ((((((((k + 1) + 1) + 1) + 1) + 1) + 1) + 1) + (cL neE_Edge x.deed.plan.edges : Nat)) + 1, (((((((((k + 1) + 1) + 1) + 1) + 1) + 1) + 1) + (cL neE_Edge x.deed.plan.edges : Nat)) + 1) + 1, ((((((((((k + 1) + 1) + 1) + 1) + 1) + 1) + 1) + (cL neE_Edge x.deed.plan.edges : Nat)) + 1) + 1) + 1⟩, (((((((((((k + 1) + 1) + 1) + 1) + 1) + 1) + 1) + (cL neE_Edge x.deed.plan.edges : Nat)) + 1) + 1) + 1) + 1, mkL mkI neI x.keep (((((((((((((k + 1) + 1) + 1) + 1) + 1) + 1) + 1) + (cL neE_Edge x.deed.plan.edges : Nat)) + 1) + 1) + 1) + 1) + 1)⟩

def ntT_Act (x : ActD) : Nat := ntT_Deed x.deed + cL neI x.keep
def mkT_Act (x : ActD) (k : Int) : ActD := ⟨x.kind, mkT_Deed x.deed k, x.n, mkL mkI neI x.keep (k + (ntT_Deed x.deed : Nat))⟩

def neE_Hand (x : Hand) : Nat := 4
def mkE_Hand (x : Hand) (k : Int) : Hand := ⟨k, k + 1, (k + 1) + 1, ((k + 1) + 1) + 1⟩

def neE_Span (x : Span) : Nat := 16 + cL neE_Edge x.deed.plan.edges
def mkE_Span (x : Span) (k : Int) : Span := ⟨⟨k, k + 1, ⟨(k + 1) + 1, ((k + 1) + 1) + 1, (((k + 1) + 1) + 1) + 1, ((((k + 1) + 1) + 1) + 1) + 1, mkL mkE_Edge neE_Edge x.deed.plan.edges ((((((k + 1) + 1) + 1) + 1) + 1) + 1)⟩, ((((((k + 1) + 1) + 1) + 1) + 1) + 1) + (cL neE_Edge x.deed.plan.edges : Nat), (((((((k + 1) + 1) + 1) + 1) + 1) + 1) + (cL neE_Edge x.deed.plan.edges : Nat)) + 1, ((((((((k + 1) + 1) + 1) + 1) + 1) + 1) + (cL neE_Edge x.deed.plan.edges : Nat)) + 1) + 1, (((((((((k + 1) + 1) + 1) + 1) + 1) + 1) + (cL neE_Edge x.deed.plan.edges : Nat)) + 1) + 1) + 1⟩, ((((((((((k + 1) + 1) + 1) + 1) + 1) + 1) + (cL neE_Edge x.deed.plan.edges : Nat)) + 1) + 1) + 1) + 1, (((((((((((k + 1) + 1) + 1) + 1) + 1) + 1) + (cL neE_Edge x.deed.plan.edges : Nat)) + 1) + 1) + 1) + 1) + 1, ⟨((((((((((((k + 1) + 1) + 1) + 1) + 1) + 1) + (cL neE_Edge x.deed.plan.edges : Nat)) + 1) + 1) + 1) + 1) + 1) + 1, (((((((((((((k + 1) + 1) + 1) + 1) + 1) + 1) + (cL neE_Edge x.deed.plan.edges : Nat)) + 1) + 1) + 1) + 1) + 1) + 1) + 1, ((((((((((((((k + 1) + 1) + 1) + 1) + 1) + 1) + (cL neE_Edge x.deed.plan.edges : Nat)) + 1) + 1) + 1) + 1) + 1) + 1) + 1) + 1, (((((((((((((((k + 1) + 1) + 1) + 1) + 1) + 1) + (cL neE_Edge x.deed.plan.edges : Nat)) + 1) + 1) + 1) + 1) + 1) + 1) + 1) + 1) + 1⟩⟩

def ntT_Span (x : Span) : Nat := ntT_Deed x.deed
def mkT_Span (x : Span) (k : Int) : Span := ⟨mkT_Deed x.deed k, x.begin_, x.end_, x.reply⟩

def neE_Crew (x : Crew) : Nat := 4 + cL (cL neE_Entry) x.yard.shelf + cL neE_Run x.yard.runs + cL neE_Reply x.holds
def mkE_Crew (x : Crew) (k : Int) : Crew := ⟨⟨k, k + 1, mkL (mkL mkE_Entry neE_Entry) (cL neE_Entry) x.yard.shelf ((k + 1) + 1), mkL mkE_Run neE_Run x.yard.runs (((k + 1) + 1) + (cL (cL neE_Entry) x.yard.shelf : Nat))⟩, mkL mkE_Reply neE_Reply x.holds ((((k + 1) + 1) + (cL (cL neE_Entry) x.yard.shelf : Nat)) + (cL neE_Run x.yard.runs : Nat)), ((((k + 1) + 1) + (cL (cL neE_Entry) x.yard.shelf : Nat)) + (cL neE_Run x.yard.runs : Nat)) + (cL neE_Reply x.holds : Nat), (((((k + 1) + 1) + (cL (cL neE_Entry) x.yard.shelf : Nat)) + (cL neE_Run x.yard.runs : Nat)) + (cL neE_Reply x.holds : Nat)) + 1⟩

def ntT_Crew (x : Crew) : Nat := ntT_Yard x.yard + cL neE_Reply x.holds
def mkT_Crew (x : Crew) (k : Int) : Crew := ⟨mkT_Yard x.yard k, mkL mkE_Reply neE_Reply x.holds (k + (ntT_Yard x.yard : Nat)), x.turns, x.did⟩

def neE_View (x : View) : Nat := 7
def mkE_View (x : View) (k : Int) : View := ⟨k, k + 1, (k + 1) + 1, ((k + 1) + 1) + 1, (((k + 1) + 1) + 1) + 1, ((((k + 1) + 1) + 1) + 1) + 1, (((((k + 1) + 1) + 1) + 1) + 1) + 1⟩

/-! ### How many numbers the marks take -/
theorem cL_bound {α : Type} {n f : α → Nat} (h : ∀ x, n x ≤ 16 * (1 + f x)) : ∀ xs : List α, cL n xs ≤ 16 * wtL f xs
  | [] => by simp [cL, wtL]
  | x :: xs => by
    have h1 := h x
    have h2 := cL_bound h xs
    simp only [cL, wtL, List.map_cons, List.sum_cons, List.length_cons] at *
    omega
theorem cL_flat {α : Type} {n : α → Nat} {c : Nat} (h : ∀ x, n x ≤ c) : ∀ xs : List α, cL n xs ≤ c * xs.length
  | [] => by simp [cL]
  | x :: xs => by
    have h1 := h x
    have h2 := cL_flat h xs
    simp only [cL, List.map_cons, List.sum_cons, List.length_cons, Nat.mul_add] at *
    omega

theorem cb_EdgeS (xs : List Edge) : cL neE_Edge xs ≤ 16 * xs.length := Nat.le_trans (cL_flat (n := neE_Edge) (c := 16) (fun y => by simp [neE_Edge]) xs) (Nat.le_refl _)
theorem nb_Plan (x : Plan) : neE_Plan x ≤ 16 * (1 + x.wt) := by
  have h0 := cb_EdgeS x.edges; simp only [neE_Plan, Plan.wt, Run.wt, Yard.wt, Deed.wt, Note.wt, File.wt, Disk.wt, Engine.wt, WorldD.wt, ActD.wt, Span.wt, Crew.wt] at *; omega
theorem nt_Plan (x : Plan) : ntT_Plan x ≤ 16 * x.wt := by
  have h4 := cb_EdgeS x.edges; unfold ntT_Plan; have hw : x.wt = x.edges.length := rfl; omega
theorem cb_PlanS (xs : List Plan) : cL neE_Plan xs ≤ 16 * (wtL (fun y : Plan => y.wt) xs) := cL_bound (n := neE_Plan) (f := fun y : Plan => y.wt) (fun y => nb_Plan y) xs
theorem cb_EntryS (xs : List Entry) : cL neE_Entry xs ≤ 16 * xs.length := Nat.le_trans (cL_flat (n := neE_Entry) (c := 16) (fun y => by simp [neE_Entry]) xs) (Nat.le_refl _)
theorem cb_TaskS (xs : List Task) : cL neE_Task xs ≤ 16 * xs.length := Nat.le_trans (cL_flat (n := neE_Task) (c := 16) (fun y => by simp [neE_Task]) xs) (Nat.le_refl _)
theorem nb_Run (x : Run) : neE_Run x ≤ 16 * (1 + x.wt) := by
  have h0 := cb_EdgeS x.plan.edges; have h1 := cb_TaskS x.tasks; simp only [neE_Run, Plan.wt, Run.wt, Yard.wt, Deed.wt, Note.wt, File.wt, Disk.wt, Engine.wt, WorldD.wt, ActD.wt, Span.wt, Crew.wt] at *; omega
theorem nt_Run (x : Run) : ntT_Run x ≤ 16 * x.wt := by
  have h1 := nt_Plan x.plan; have h3 := cb_TaskS x.tasks; unfold ntT_Run; have hw : x.wt = x.plan.wt + x.tasks.length := rfl; omega
theorem cb_RunS (xs : List Run) : cL neE_Run xs ≤ 16 * (wtL (fun y : Run => y.wt) xs) := cL_bound (n := neE_Run) (f := fun y : Run => y.wt) (fun y => nb_Run y) xs
theorem cb_EntrySS (xs : List (List Entry)) : cL (cL neE_Entry) xs ≤ 16 * (wtL (fun y : List Entry => y.length) xs) := cL_bound (n := cL neE_Entry) (f := fun y : List Entry => y.length) (fun y => by have := cb_EntryS y; omega) xs
theorem nb_Yard (x : Yard) : neE_Yard x ≤ 16 * (1 + x.wt) := by
  have h0 := cb_EntrySS x.shelf; have h1 := cb_RunS x.runs; simp only [neE_Yard, Plan.wt, Run.wt, Yard.wt, Deed.wt, Note.wt, File.wt, Disk.wt, Engine.wt, WorldD.wt, ActD.wt, Span.wt, Crew.wt] at *; omega
theorem nt_Yard (x : Yard) : ntT_Yard x ≤ 16 * x.wt := by
  have h2 := cb_EntrySS x.shelf; have h3 := cb_RunS x.runs; unfold ntT_Yard; have hw : x.wt = (wtL (fun y : List Entry => y.length) x.shelf) + (wtL (fun y : Run => y.wt) x.runs) := rfl; omega
theorem cb_YardS (xs : List Yard) : cL neE_Yard xs ≤ 16 * (wtL (fun y : Yard => y.wt) xs) := cL_bound (n := neE_Yard) (f := fun y : Yard => y.wt) (fun y => nb_Yard y) xs
theorem cb_ReplyS (xs : List Reply) : cL neE_Reply xs ≤ 16 * xs.length := Nat.le_trans (cL_flat (n := neE_Reply) (c := 16) (fun y => by simp [neE_Reply]) xs) (Nat.le_refl _)
theorem nb_Deed (x : Deed) : neE_Deed x ≤ 16 * (1 + x.wt) := by
  have h0 := cb_EdgeS x.plan.edges; simp only [neE_Deed, Plan.wt, Run.wt, Yard.wt, Deed.wt, Note.wt, File.wt, Disk.wt, Engine.wt, WorldD.wt, ActD.wt, Span.wt, Crew.wt] at *; omega
theorem nt_Deed (x : Deed) : ntT_Deed x ≤ 16 * x.wt := by
  have h2 := nt_Plan x.plan; unfold ntT_Deed; have hw : x.wt = x.plan.wt := rfl; omega
theorem cb_DeedS (xs : List Deed) : cL neE_Deed xs ≤ 16 * (wtL (fun y : Deed => y.wt) xs) := cL_bound (n := neE_Deed) (f := fun y : Deed => y.wt) (fun y => nb_Deed y) xs
theorem nb_Note (x : Note) : neE_Note x ≤ 16 * (1 + x.wt) := by
  have h0 := cb_EdgeS x.deed.plan.edges; simp only [neE_Note, Plan.wt, Run.wt, Yard.wt, Deed.wt, Note.wt, File.wt, Disk.wt, Engine.wt, WorldD.wt, ActD.wt, Span.wt, Crew.wt] at *; omega
theorem nt_Note (x : Note) : ntT_Note x ≤ 16 * x.wt := by
  have h1 := nt_Deed x.deed; unfold ntT_Note; have hw : x.wt = x.deed.wt := rfl; omega
theorem cb_NoteS (xs : List Note) : cL neE_Note xs ≤ 16 * (wtL (fun y : Note => y.wt) xs) := cL_bound (n := neE_Note) (f := fun y : Note => y.wt) (fun y => nb_Note y) xs
theorem cb_WaitS (xs : List Wait) : cL neE_Wait xs ≤ 16 * xs.length := Nat.le_trans (cL_flat (n := neE_Wait) (c := 16) (fun y => by simp [neE_Wait]) xs) (Nat.le_refl _)
theorem nb_File (x : File) : neE_File x ≤ 16 * (1 + x.wt) := by unfold neE_File; omega
theorem cb_FileS (xs : List File) : cL neE_File xs ≤ 16 * (wtL (fun y : File => y.wt) xs) := cL_bound (n := neE_File) (f := fun y : File => y.wt) (fun y => nb_File y) xs
theorem nb_Disk (x : Disk) : neE_Disk x ≤ 16 * (1 + x.wt) := by
  have h0 := cb_FileS x.files; simp only [neE_Disk, Plan.wt, Run.wt, Yard.wt, Deed.wt, Note.wt, File.wt, Disk.wt, Engine.wt, WorldD.wt, ActD.wt, Span.wt, Crew.wt] at *; omega
theorem nt_Disk (x : Disk) : ntT_Disk x ≤ 16 * x.wt := by
  have h0 := cb_FileS x.files; unfold ntT_Disk; have hw : x.wt = (wtL (fun y : File => y.wt) x.files) := rfl; omega
theorem cb_DiskS (xs : List Disk) : cL neE_Disk xs ≤ 16 * (wtL (fun y : Disk => y.wt) xs) := cL_bound (n := neE_Disk) (f := fun y : Disk => y.wt) (fun y => nb_Disk y) xs
theorem nb_Engine (x : Engine) : neE_Engine x ≤ 16 * (1 + x.wt) := by
  have h0 := cb_EntrySS x.yard.shelf; have h1 := cb_RunS x.yard.runs; have h2 := cb_FileS x.disk.files; have h3 := cb_WaitS x.waits; simp only [neE_Engine, Plan.wt, Run.wt, Yard.wt, Deed.wt, Note.wt, File.wt, Disk.wt, Engine.wt, WorldD.wt, ActD.wt, Span.wt, Crew.wt] at *; omega
theorem nt_Engine (x : Engine) : ntT_Engine x ≤ 16 * x.wt := by
  have h0 := nt_Yard x.yard; have h1 := nt_Disk x.disk; have h4 := cb_WaitS x.waits; unfold ntT_Engine; have hw : x.wt = x.yard.wt + x.disk.wt + x.waits.length := rfl; omega
theorem cb_EngineS (xs : List Engine) : cL neE_Engine xs ≤ 16 * (wtL (fun y : Engine => y.wt) xs) := cL_bound (n := neE_Engine) (f := fun y : Engine => y.wt) (fun y => nb_Engine y) xs
theorem nb_World (x : WorldD) : neE_World x ≤ 16 * (1 + x.wt) := by
  have h0 := cb_EntrySS x.engine.yard.shelf; have h1 := cb_RunS x.engine.yard.runs; have h2 := cb_FileS x.engine.disk.files; have h3 := cb_WaitS x.engine.waits; have h4 := cb_DeedS x.deeds; have h5 := cb_ReplyS x.replies; simp only [neE_World, Plan.wt, Run.wt, Yard.wt, Deed.wt, Note.wt, File.wt, Disk.wt, Engine.wt, WorldD.wt, ActD.wt, Span.wt, Crew.wt] at *; omega
theorem nt_World (x : WorldD) : ntT_World x ≤ 16 * x.wt := by
  have h0 := nt_Engine x.engine; have h1 := cb_DeedS x.deeds; have h2 := cb_ReplyS x.replies; unfold ntT_World; have hw : x.wt = x.engine.wt + (wtL (fun y : Deed => y.wt) x.deeds) + x.replies.length := rfl; omega
theorem cb_WorldS (xs : List WorldD) : cL neE_World xs ≤ 16 * (wtL (fun y : WorldD => y.wt) xs) := cL_bound (n := neE_World) (f := fun y : WorldD => y.wt) (fun y => nb_World y) xs
theorem cb_IntS (xs : List Int) : cL neI xs ≤ 16 * xs.length := Nat.le_trans (cL_flat (n := neI) (c := 16) (fun y => by simp [neI]) xs) (Nat.le_refl _)
theorem nb_Act (x : ActD) : neE_Act x ≤ 16 * (1 + x.wt) := by
  have h0 := cb_EdgeS x.deed.plan.edges; have h1 := cb_IntS x.keep; simp only [neE_Act, Plan.wt, Run.wt, Yard.wt, Deed.wt, Note.wt, File.wt, Disk.wt, Engine.wt, WorldD.wt, ActD.wt, Span.wt, Crew.wt] at *; omega
theorem nt_Act (x : ActD) : ntT_Act x ≤ 16 * x.wt := by
  have h1 := nt_Deed x.deed; have h3 := cb_IntS x.keep; unfold ntT_Act; have hw : x.wt = x.deed.wt + x.keep.length := rfl; omega
theorem cb_ActS (xs : List ActD) : cL neE_Act xs ≤ 16 * (wtL (fun y : ActD => y.wt) xs) := cL_bound (n := neE_Act) (f := fun y : ActD => y.wt) (fun y => nb_Act y) xs
theorem cb_HandS (xs : List Hand) : cL neE_Hand xs ≤ 16 * xs.length := Nat.le_trans (cL_flat (n := neE_Hand) (c := 16) (fun y => by simp [neE_Hand]) xs) (Nat.le_refl _)
theorem nb_Span (x : Span) : neE_Span x ≤ 16 * (1 + x.wt) := by
  have h0 := cb_EdgeS x.deed.plan.edges; simp only [neE_Span, Plan.wt, Run.wt, Yard.wt, Deed.wt, Note.wt, File.wt, Disk.wt, Engine.wt, WorldD.wt, ActD.wt, Span.wt, Crew.wt] at *; omega
theorem nt_Span (x : Span) : ntT_Span x ≤ 16 * x.wt := by
  have h0 := nt_Deed x.deed; unfold ntT_Span; have hw : x.wt = x.deed.wt := rfl; omega
theorem cb_SpanS (xs : List Span) : cL neE_Span xs ≤ 16 * (wtL (fun y : Span => y.wt) xs) := cL_bound (n := neE_Span) (f := fun y : Span => y.wt) (fun y => nb_Span y) xs
theorem nb_Crew (x : Crew) : neE_Crew x ≤ 16 * (1 + x.wt) := by
  have h0 := cb_EntrySS x.yard.shelf; have h1 := cb_RunS x.yard.runs; have h2 := cb_ReplyS x.holds; simp only [neE_Crew, Plan.wt, Run.wt, Yard.wt, Deed.wt, Note.wt, File.wt, Disk.wt, Engine.wt, WorldD.wt, ActD.wt, Span.wt, Crew.wt] at *; omega
theorem nt_Crew (x : Crew) : ntT_Crew x ≤ 16 * x.wt := by
  have h0 := nt_Yard x.yard; have h1 := cb_ReplyS x.holds; unfold ntT_Crew; have hw : x.wt = x.yard.wt + x.holds.length := rfl; omega
theorem cb_CrewS (xs : List Crew) : cL neE_Crew xs ≤ 16 * (wtL (fun y : Crew => y.wt) xs) := cL_bound (n := neE_Crew) (f := fun y : Crew => y.wt) (fun y => nb_Crew y) xs
theorem cb_ViewS (xs : List View) : cL neE_View xs ≤ 16 * xs.length := Nat.le_trans (cL_flat (n := neE_View) (c := 16) (fun y => by simp [neE_View]) xs) (Nat.le_refl _)
end Go.Proofs.YtchnllpegfbleaaDoor

/-
  The laws' marks, walked. (Printed by a program of this project's.)
-/
namespace Go.Proofs.YtchnllpegfbleaaDoor
set_option linter.unusedSimpArgs false
set_option linter.unusedVariables false
set_option maxRecDepth 100000
open Go.RowKit

set_option maxHeartbeats 2000000 in
theorem markEdgeS_n {w W0 : World} {rs : List Res} {v : Value} {xs : List Edge} {fp : List Nat} (hst : St w W0 (Res.own v xs fp :: rs)) (k : Int) (h0 : 0 ≤ k) (hk : k + (cL neE_Edge xs : Nat) ≤ 4611686018427387904) :
    Calls Tryd.prog 65 #[v, I k] W0 fun e w' => ∃ fp', e = .returned (I (k + (cL neE_Edge xs : Nat))) ∧ St w w' (Res.own v (mkL mkE_Edge neE_Edge xs k) fp' :: rs) := by
  have hcap := (own_Sl (hst.get 0 rfl)).len_le
  refine enter2 Tryd.func65 rfl Tryd.ntmps65 (by decide) ?_
  refine wp_seq ?_
  refine sx_region ?_
  refine sx rfl (stp_assign (v := I 0) rfl ?_)
  refine sx_nil ?_
  refine wp_seq ?_
  refine wp_seq ?_
  refine sx_region ?_
  refine sx rfl (stp_assign (v := I 0) rfl ?_)
  refine sx_nil ?_
  refine wp_block ?_
  refine sx_loop (fun (m : Nat) (f : Nat → Value) (W : World) => ∃ (i : Nat) (K : Int) (fo5 : List Nat), i ≤ xs.length ∧ K = k + (cL neE_Edge (xs.take i) : Nat) ∧ m = xs.length - i ∧ Ag [(0, v), (1, I K), (5, I (i : Int))] f ∧ St w W (Res.own (α := List Edge) v (mkL mkE_Edge neE_Edge (xs.take i) k ++ xs.drop i) fo5 :: rs)) (xs.length - 0) ?_ ?_
  · exact ⟨0, k, fp, Nat.zero_le _, (by simp [cL]), rfl, (Ag.nil.put.put.put.put.to (by kernel_rfl)), (by simpa [mkL] using hst)⟩
  intro m6 f7 W8 hJ9
  obtain ⟨i, K, fo5, hi, hK, rfl, hA11, st10⟩ := hJ9
  have hlx : (mkL mkE_Edge neE_Edge (xs.take i) k ++ xs.drop i).length = xs.length := by rw [List.length_append, mkL_len, List.length_take, List.length_drop]; omega
  refine wp_seq ?_
  refine wp_seq ?_
  refine sx_region ?_
  refine rn st10 4 hA11 [] [(9, .bool (decide ((i : Int) < ((mkL mkE_Edge neE_Edge (xs.take i) k ++ xs.drop i).length : Int))))] [ql (own_Sl (st10.get 0 rfl)), .o] (by kernel_rfl) fun f13 h13_ => ?_
  refine sx_nil ?_
  refine sx_ifd (h13_.at 9) (fun h14p => ?_) (fun h14p => ?_)
  · skip
    refine wp_skip ?_
    refine wp_seq ?_
    refine wp_block ?_
    refine wp_seq ?_
    refine sx_region ?_
    refine rn st10 3 h13_ [] [(12, v), (13, I (i : Int)), (14, I K)] [] (by kernel_rfl) fun f16 h16_ => ?_
    have hq_ := some_at (xs := xs) (i := i) (by omega)
    obtain ⟨y, hy⟩ := hq_
    have hcs := cL_takey neE_Edge hy
    have hcl := cL_take_le neE_Edge xs (i + 1)
    have hne : neE_Edge y = 2 := rfl
    have hb17 : Bd K (1 + (1 + (0))) := ⟨by omega, by omega⟩
    have hq_ := St.lendx (α := Edge) (by decide) st10 (x := y) (mk_gety hy)
    obtain ⟨b18, e18, pre18, cs18, post18, fi18, fr18, hPA18, hC18, st19⟩ := hq_
    obtain ⟨he18, hf18, hok18⟩ := hC18; have he18 : _ = [I y.from_, I y.to_] := he18; subst he18
    refine sx rfl (stp_indexAddr sl_EdgeS (h16_.at 12) hPA18 (h16_.at 13) rfl ?_)
    refine sx rfl (stp_fieldAddr fa_Edge_0 rfl ?_)
    refine sxn rfl rfl (stp_store_bp (i := 0) (v := I K) (C' := [I K, I y.to_]) (by kernel_rfl) rfl (h16_.at 14) rfl rfl st19.d1 rfl (Nat.le_of_ble_eq_true rfl) rfl ?_); intro W26 st27
    refine sx_nil ?_
    refine wp_seq ?_
    refine sx_region ?_
    have hb29 := hb17.up
    refine rn st27 3 h16_.put.put [1] [(1, I (K + 1))] [.ad K 1 hb29.i64] (by kernel_rfl) fun f30 h30_ => ?_
    refine sx_nil ?_
    refine wp_seq ?_
    refine sx_region ?_
    refine rn st27 5 h30_ [] [(21, I (K + 1)), (23, .pointer (some ⟨b18, pre18.length + 1, none⟩))] [qx hPA18] (by kernel_rfl) fun f32 h32_ => ?_
    refine sxn rfl rfl (stp_store_bp (i := 1) (v := I (K + 1)) (C' := [I K, I (K + 1)]) (by kernel_rfl) (h32_.at 23) (h32_.at 21) rfl rfl st27 rfl (Nat.le_of_ble_eq_true rfl) rfl ?_); intro W33 st34
    refine sx_nil ?_
    refine sx_region ?_
    have hb36 := hb29.up
    refine rn st34 3 h32_ [1] [(1, I ((K + 1) + 1))] [.ad (K + 1) 1 hb36.i64] (by kernel_rfl) fun f37 h37_ => ?_
    refine sx_nil ?_
    refine sx_region ?_
    refine rn st34 3 h37_ [5] [(5, I ((i : Int) + 1))] [qad (i : Int) 1] (by kernel_rfl) fun f39 h39_ => ?_
    refine sx_nil ?_
    have st40 := st34.cs0 (cs := [I K, I (K + 1)]) (x := (⟨K, K + 1⟩ : Edge)) ⟨rfl, rfl, (by first | exact True.intro | (simp only [Edge.ok, Plan.ok, Entry.ok, Task.ok, Run.ok, Yard.ok, Reply.ok, Deed.ok, Note.ok, Wait.ok, File.ok, Disk.ok, Engine.ok, WorldD.ok, ActD.ok, Hand.ok, Span.ok, Crew.ok, View.ok, I64] at *; omega))⟩
    have hq_ := St.give (α := Edge) st40.f2.f1.f2
    obtain ⟨fp45, st46⟩ := hq_
    exact ⟨_, xs.length - (i + 1), (by omega), rfl, i + 1, (K + 1) + 1, fp45, (by omega), (by omega), rfl, (h39_.to (by kernel_rfl)), (by rw [← mk_stepy hy hK]; exact st46)⟩
  · skip
    refine wp_exit ?_
    refine wp_seq ?_
    refine sx_region ?_
    refine sx rfl (stp_move (v := I K) (h13_.at 1) ?_)
    refine sx rfl (stp_assign (v := I K) rfl ?_)
    refine sx_nil ?_
    refine wr (ret1 Tryd.results65 rfl ?_)
    obtain rfl : i = xs.length := by omega
    have hca := cL_all neE_Edge xs _ rfl
    rw [mk_all rfl] at st10
    exact ⟨_, fI (by omega), st10⟩
set_option maxHeartbeats 2000000 in
theorem heldEdgeS_n (w : World) {v : Value} {x : List Edge} {fp : List Nat} {k : Int} (h : Sl w v (mkL mkE_Edge neE_Edge x k) fp) (h0 : 0 ≤ k) (hk : k + (cL neE_Edge x : Nat) ≤ 4611686018427387904) :
    Calls Tryd.prog 66 #[v, I k] w fun e w' => e = .returned (I (k + (cL neE_Edge x : Nat))) ∧ St w w' [] := by
  have hcap := h.len_le
  rw [mkL_len] at hcap
  have hml : (mkL mkE_Edge neE_Edge x k).length = x.length := mkL_len _ _
  refine enter2 Tryd.func66 rfl Tryd.ntmps66 (by decide) ?_
  refine wp_seq ?_
  refine sx_region ?_
  refine sx rfl (stp_assign (v := I 0) rfl ?_)
  refine sx_nil ?_
  refine wp_seq ?_
  refine wp_seq ?_
  refine sx_region ?_
  refine sx rfl (stp_assign (v := I 0) rfl ?_)
  refine sx_nil ?_
  refine wp_block ?_
  refine sx_loop (fun (m : Nat) (f : Nat → Value) (W : World) => ∃ (i : Nat) (K : Int), i ≤ x.length ∧ K = k + (cL neE_Edge (x.take i) : Nat) ∧ m = x.length - i ∧ Ag [(0, v), (1, I K), (5, I (i : Int))] f ∧ St w W ([])) (x.length - 0) ?_ ?_
  · exact ⟨0, k, Nat.zero_le _, (by simp [cL]), rfl, (Ag.nil.put.put.put.put.to (by kernel_rfl)), (St.start w)⟩
  intro m5 f6 W7 hJ8
  obtain ⟨i, K, hi, hK, rfl, hA10, st9⟩ := hJ8
  refine wp_seq ?_
  refine wp_seq ?_
  refine sx_region ?_
  refine rn st9 4 hA10 [] [(9, .bool (decide ((i : Int) < ((mkL mkE_Edge neE_Edge x k).length : Int))))] [ql h, .o] (by kernel_rfl) fun f12 h12_ => ?_
  refine sx_nil ?_
  refine sx_ifd (h12_.at 9) (fun h13p => ?_) (fun h13p => ?_)
  · skip
    refine wp_skip ?_
    refine wp_seq ?_
    refine wp_block ?_
    refine wp_seq ?_
    refine wp_seq ?_
    refine sx_region ?_
    refine sx rfl (stp_move (v := v) (h12_.at 0) ?_)
    refine sx rfl (stp_move (v := I (i : Int)) (h12_.at 5) ?_)
    have hq_ := some_at (xs := x) (i := i) (by omega)
    obtain ⟨y, hy⟩ := hq_
    have hcs := cL_takey neE_Edge hy
    have hcl := cL_take_le neE_Edge x (i + 1)
    have hne : neE_Edge y = 2 := rfl
    have hb17 : Bd K (1 + (1 + (0))) := ⟨by omega, by omega⟩
    have hq_ := idxmy h hy hK
    obtain ⟨b16, o16, cs16, f16, hp16, hr16, hc16, hm16⟩ := hq_
    have hk18 := hc16
    obtain ⟨he18, rfl, hok18⟩ := hk18
    have he18 : _ = [I K, I (K + 1)] := he18; subst he18
    refine rn st9 5 h12_.put.put [] [(18, .bool (!decide (K = K)))] [qx hp16, qr hr16 0, .o] (by kernel_rfl) fun f20 h20_ => ?_
    refine sx_nil ?_
    refine sx_ifn (h20_.at 18) (fun h21p => ?_) (fun h21p => ?_)
    · skip
      exact absurd rfl h21p
    · skip
      refine wp_skip ?_
      refine wp_seq ?_
      refine sx_region ?_
      have hb23 := hb17.up
      refine rn st9 3 h20_ [1] [(1, I (K + 1))] [.ad K 1 hb23.i64] (by kernel_rfl) fun f24 h24_ => ?_
      refine sx_nil ?_
      refine wp_seq ?_
      refine wp_seq ?_
      refine sx_region ?_
      refine sx rfl (stp_move (v := v) (h24_.at 0) ?_)
      refine sx rfl (stp_move (v := I (i : Int)) (h24_.at 5) ?_)
      refine rn st9 5 h24_.put.put [] [(27, .bool (!decide ((K + 1) = (K + 1))))] [qx hp16, qr hr16 1, .o] (by kernel_rfl) fun f29 h29_ => ?_
      refine sx_nil ?_
      refine sx_ifn (h29_.at 27) (fun h30p => ?_) (fun h30p => ?_)
      · skip
        exact absurd rfl h30p
      · skip
        refine wp_skip ?_
        refine sx_region ?_
        have hb32 := hb23.up
        refine rn st9 3 h29_ [1] [(1, I ((K + 1) + 1))] [.ad (K + 1) 1 hb32.i64] (by kernel_rfl) fun f33 h33_ => ?_
        refine sx_nil ?_
        refine sx_region ?_
        refine rn st9 3 h33_ [5] [(5, I ((i : Int) + 1))] [qad (i : Int) 1] (by kernel_rfl) fun f35 h35_ => ?_
        refine sx_nil ?_
        exact ⟨_, x.length - (i + 1), (by omega), rfl, i + 1, (K + 1) + 1, (by omega), (by omega), rfl, (h35_.to (by kernel_rfl)), st9⟩
  · skip
    refine wp_exit ?_
    refine wp_seq ?_
    refine sx_region ?_
    refine sx rfl (stp_move (v := I K) (h12_.at 1) ?_)
    refine sx rfl (stp_assign (v := I K) rfl ?_)
    refine sx_nil ?_
    refine wr (ret1 Tryd.results66 rfl ?_)
    obtain rfl : i = x.length := by omega
    have hca := cL_all neE_Edge x _ rfl
    exact ⟨fI (by omega), st9.bare⟩
set_option maxHeartbeats 2000000 in
theorem markPlan_n {w W0 : World} {rs : List Res} {x : Plan} {cs : List Value} {fp : List Nat} (hst : St w W0 (Res.own (.agg cs.toArray) x fp :: rs)) (k : Int) (h0 : 0 ≤ k) (hk : k + (ntT_Plan x : Nat) ≤ 4611686018427387904) :
    Calls Tryd.prog 46 #[.agg cs.toArray, I k] W0 fun e w' => ∃ fp', e = .returned (I (k + (ntT_Plan x : Nat))) ∧ St w w' (Res.own (.agg cs.toArray) (mkT_Plan x k) fp' :: rs) := by
  have hk2 := hk
  unfold ntT_Plan at hk2
  refine enter2 Tryd.func46 rfl Tryd.ntmps46 (by decide) ?_
  have hb1 : Bd k ((cL neE_Edge x.edges) + (0)) := ⟨by omega, by omega⟩
  refine wp_seq ?_
  refine sx_region ?_
  refine sx rfl (stp_box_agg (cs := cs) rfl hst ?_); intro b2 W3 hb4 st5
  refine sx rfl (stp_assign (v := I 0) rfl ?_)
  refine sx_nil ?_
  refine wp_seq ?_
  refine sx_region ?_
  have hq_ := open_Plan st5.f1
  obtain ⟨v11_0, g11_0, he11, hok11, st12⟩ := hq_
  subst he11
  refine rn st12 3 Ag.nil.put.put.put.put [] [(6, v11_0), (7, I k)] [qb 1 rfl 4] (by kernel_rfl) fun f14 h14_ => ?_
  have hb19 := hb1.upc
  refine sx rfl (stp_call2 Tryd.func65 rfl (h14_.at 6) (h14_.at 7) ((markEdgeS_n st12 k hb1.lo hb1.hi).mono ?_)); rintro _ W15 ⟨fp18, rfl, st17⟩; refine ⟨_, rfl, ?_⟩
  refine sx rfl (stp_assign (v := I (k + (cL neE_Edge x.edges : Nat))) rfl ?_)
  refine sx_nil ?_
  refine wp_seq ?_
  refine sx_region ?_
  refine sx rfl (stp_move (v := I (k + (cL neE_Edge x.edges : Nat))) rfl ?_)
  refine sx rfl (stp_assign (v := I (k + (cL neE_Edge x.edges : Nat))) rfl ?_)
  refine sx_nil ?_
  refine wr (ret1 Tryd.results46 rfl ?_)
  have st24 := shut_Plan (x := (mkT_Plan x k)) st17 hok11
  exact ⟨_, fI (by unfold ntT_Plan; push_cast; omega), st24.d1⟩
set_option maxHeartbeats 2000000 in
theorem heldPlan_n (w : World) {x : Plan} {cs : List Value} {fp : List Nat} {k : Int} (hc : Shape.C w cs (mkT_Plan x k) fp) (h0 : 0 ≤ k) (hk : k + (ntT_Plan x : Nat) ≤ 4611686018427387904) :
    Calls Tryd.prog 47 #[.agg cs.toArray, I k] w fun e w' => e = .returned (I (k + (ntT_Plan x : Nat))) ∧ St w w' [] := by
  have hk2 := hk
  have hnt : ntT_Plan x = cL neE_Edge x.edges := rfl
  refine enter2 Tryd.func47 rfl Tryd.ntmps47 (by decide) ?_
  have hb1 : Bd k ((cL neE_Edge x.edges) + (0)) := ⟨by omega, by omega⟩
  refine wp_seq ?_
  refine sx_region ?_
  refine sx rfl (stp_box_agg (cs := cs) rfl (St.start w) ?_); intro b2 W3 hb4 st5
  refine sx rfl (stp_assign (v := I 0) rfl ?_)
  refine sx_nil ?_
  refine wp_seq ?_
  refine sx_region ?_
  have hk10 := hc
  obtain ⟨v10_0, g10_0, he10, hok10, h10_0, rfl⟩ := hk10
  have he10 : _ = [I x.prio, I x.most, I x.wait, I x.tasks, v10_0] := he10; subst he10
  have h10_0 : Sl _ v10_0 (mkL mkE_Edge neE_Edge x.edges k) _ := h10_0
  refine rn st5 3 Ag.nil.put.put.put.put [] [(6, v10_0), (7, I k)] [qb 0 rfl 4] (by kernel_rfl) fun f11 h11_ => ?_
  have hb16 := hb1.upc
  refine sx rfl (stp_call2 Tryd.func66 rfl (h11_.at 6) (h11_.at 7) ((heldEdgeS_n W3 (x := x.edges) (h10_0.below st5.below) hb1.lo hb1.hi).mono ?_)); rintro _ W12 ⟨rfl, hk13⟩; refine ⟨_, rfl, ?_⟩
  have st14 := St.call st5 hk13
  refine sx rfl (stp_assign (v := I (k + (cL neE_Edge x.edges : Nat))) rfl ?_)
  refine sx_nil ?_
  refine wp_seq ?_
  refine wp_seq ?_
  refine sx_region ?_
  refine sx rfl (stp_move (v := I (k + (cL neE_Edge x.edges : Nat))) rfl ?_)
  refine sx rfl (stp_lss rfl rfl ?_)
  refine sx_nil ?_
  refine sx_ifd rfl (fun h21p => ?_) (fun h21p => ?_)
  · skip
    exact absurd h21p (Int.not_lt.2 hb16.1)
  · skip
    refine wp_skip ?_
    refine wp_seq ?_
    refine sx_region ?_
    refine sx rfl (stp_move (v := I (k + (cL neE_Edge x.edges : Nat))) rfl ?_)
    refine sx rfl (stp_assign (v := I (k + (cL neE_Edge x.edges : Nat))) rfl ?_)
    refine sx_nil ?_
    refine wr (ret1 Tryd.results47 rfl ?_)
    exact ⟨fI (by omega), st14.bare⟩
set_option maxHeartbeats 2000000 in
theorem markDeed_n {w W0 : World} {rs : List Res} {x : Deed} {cs : List Value} {fp : List Nat} (hst : St w W0 (Res.own (.agg cs.toArray) x fp :: rs)) (k : Int) (h0 : 0 ≤ k) (hk : k + (ntT_Deed x : Nat) ≤ 4611686018427387904) :
    Calls Tryd.prog 22 #[.agg cs.toArray, I k] W0 fun e w' => ∃ fp', e = .returned (I (k + (ntT_Deed x : Nat))) ∧ St w w' (Res.own (.agg cs.toArray) (mkT_Deed x k) fp' :: rs) := by
  have hk2 := hk
  unfold ntT_Deed at hk2
  refine enter2 Tryd.func22 rfl Tryd.ntmps22 (by decide) ?_
  have hb1 : Bd k ((ntT_Plan x.plan) + (0)) := ⟨by omega, by omega⟩
  refine wp_seq ?_
  refine sx_region ?_
  refine sx rfl (stp_box_agg (cs := cs) rfl hst ?_); intro b2 W3 hb4 st5
  refine sx rfl (stp_assign (v := I 0) rfl ?_)
  refine sx_nil ?_
  refine wp_seq ?_
  refine sx_region ?_
  have hq_ := open_Deed st5.f1
  obtain ⟨v11_0, g11_0, he11, hok11, st12⟩ := hq_
  subst he11
  refine rn st12 3 Ag.nil.put.put.put.put [] [(6, .agg #[I x.plan.prio, I x.plan.most, I x.plan.wait, I x.plan.tasks, v11_0]), (7, I k)] [qb 1 rfl 2] (by kernel_rfl) fun f14 h14_ => ?_
  have st19 := shut_Plan (x := x.plan) st12 (by first | exact True.intro | (simp only [Edge.ok, Plan.ok, Entry.ok, Task.ok, Run.ok, Yard.ok, Reply.ok, Deed.ok, Note.ok, Wait.ok, File.ok, Disk.ok, Engine.ok, WorldD.ok, ActD.ok, Hand.ok, Span.ok, Crew.ok, View.ok, I64] at *; omega))
  have hb21 := hb1.upc
  refine sx rfl (stp_call2 Tryd.func46 rfl (h14_.at 6) (h14_.at 7) ((markPlan_n st19 k hb1.lo hb1.hi).mono ?_)); rintro _ W15 ⟨fp18, rfl, st17⟩; refine ⟨_, rfl, ?_⟩
  have hq_ := open_Plan st17
  obtain ⟨vq22_0, fq22_0, heq22, hokq22, st23⟩ := hq_
  have ev22_0 := Option.some.inj (congrArg (fun l : List Value => l[4]?) heq22); subst ev22_0
  refine sx rfl (stp_assign (v := I (k + (ntT_Plan x.plan : Nat))) rfl ?_)
  refine sx_nil ?_
  refine wp_seq ?_
  refine sx_region ?_
  refine sx rfl (stp_move (v := I (k + (ntT_Plan x.plan : Nat))) rfl ?_)
  refine sx rfl (stp_assign (v := I (k + (ntT_Plan x.plan : Nat))) rfl ?_)
  refine sx_nil ?_
  refine wr (ret1 Tryd.results22 rfl ?_)
  have st28 := shut_Deed (x := (mkT_Deed x k)) st23 hok11
  exact ⟨_, fI (by unfold ntT_Deed; push_cast; omega), st28.d1⟩
set_option maxHeartbeats 2000000 in
theorem heldDeed_n (w : World) {x : Deed} {cs : List Value} {fp : List Nat} {k : Int} (hc : Shape.C w cs (mkT_Deed x k) fp) (h0 : 0 ≤ k) (hk : k + (ntT_Deed x : Nat) ≤ 4611686018427387904) :
    Calls Tryd.prog 23 #[.agg cs.toArray, I k] w fun e w' => e = .returned (I (k + (ntT_Deed x : Nat))) ∧ St w w' [] := by
  have hk2 := hk
  have hnt : ntT_Deed x = ntT_Plan x.plan := rfl
  refine enter2 Tryd.func23 rfl Tryd.ntmps23 (by decide) ?_
  have hb1 : Bd k ((ntT_Plan x.plan) + (0)) := ⟨by omega, by omega⟩
  refine wp_seq ?_
  refine sx_region ?_
  refine sx rfl (stp_box_agg (cs := cs) rfl (St.start w) ?_); intro b2 W3 hb4 st5
  refine sx rfl (stp_assign (v := I 0) rfl ?_)
  refine sx_nil ?_
  refine wp_seq ?_
  refine sx_region ?_
  have hk10 := hc
  obtain ⟨v10_0, g10_0, he10, hok10, h10_0, rfl⟩ := hk10
  have he10 : _ = [I x.kind, I x.run, I x.plan.prio, I x.plan.most, I x.plan.wait, I x.plan.tasks, v10_0, I x.task, I x.try_, I x.worker, I x.draw] := he10; subst he10
  have h10_0 : Sl _ v10_0 (mkL mkE_Edge neE_Edge x.plan.edges k) _ := h10_0
  refine rn st5 3 Ag.nil.put.put.put.put [] [(6, .agg #[I x.plan.prio, I x.plan.most, I x.plan.wait, I x.plan.tasks, v10_0]), (7, I k)] [qb 0 rfl 2] (by kernel_rfl) fun f11 h11_ => ?_
  have hb16 := hb1.upc
  refine sx rfl (stp_call2 Tryd.func47 rfl (h11_.at 6) (h11_.at 7) ((heldPlan_n W3 (x := x.plan) (show Shape.C _ [I x.plan.prio, I x.plan.most, I x.plan.wait, I x.plan.tasks, v10_0] (mkT_Deed x k).plan _ from ⟨_, _, rfl, (by first | exact True.intro | (simp only [Edge.ok, Plan.ok, Entry.ok, Task.ok, Run.ok, Yard.ok, Reply.ok, Deed.ok, Note.ok, Wait.ok, File.ok, Disk.ok, Engine.ok, WorldD.ok, ActD.ok, Hand.ok, Span.ok, Crew.ok, View.ok, I64] at *; omega)), (h10_0.below st5.below), rfl⟩) hb1.lo hb1.hi).mono ?_)); rintro _ W12 ⟨rfl, hk13⟩; refine ⟨_, rfl, ?_⟩
  have st14 := St.call st5 hk13
  refine sx rfl (stp_assign (v := I (k + (ntT_Plan x.plan : Nat))) rfl ?_)
  refine sx_nil ?_
  refine wp_seq ?_
  refine wp_seq ?_
  refine sx_region ?_
  refine sx rfl (stp_move (v := I (k + (ntT_Plan x.plan : Nat))) rfl ?_)
  refine sx rfl (stp_lss rfl rfl ?_)
  refine sx_nil ?_
  refine sx_ifd rfl (fun h21p => ?_) (fun h21p => ?_)
  · skip
    exact absurd h21p (Int.not_lt.2 hb16.1)
  · skip
    refine wp_skip ?_
    refine wp_seq ?_
    refine sx_region ?_
    refine sx rfl (stp_move (v := I (k + (ntT_Plan x.plan : Nat))) rfl ?_)
    refine sx rfl (stp_assign (v := I (k + (ntT_Plan x.plan : Nat))) rfl ?_)
    refine sx_nil ?_
    refine wr (ret1 Tryd.results23 rfl ?_)
    exact ⟨fI (by omega), st14.bare⟩
end Go.Proofs.YtchnllpegfbleaaDoor

/-
  The law on ReadDeed, walked. (Printed by a program of this project's.)
-/
namespace Go.Proofs.YtchnllpegfbleaaDoor
set_option linter.unusedSimpArgs false
set_option linter.unusedVariables false
set_option maxRecDepth 100000
open Go.RowKit

set_option maxHeartbeats 2000000 in
theorem readDeed_law (w : World) (s0 : ByteArray) (hs0 : s0.size ≤ maxLen) (hG : gD.p w) :
    Calls Tryd.prog 6 #[.string s0] w fun e w' => e = .returned (.bool true) ∧ Below w.heap.size w w' := by
  have hwd : (rdD s0).wt ≤ 1000 := readDeed_wt s0
  refine enter1 Tryd.func6 rfl Tryd.ntmps6 (by decide) ?_
  refine wp_seq ?_
  refine sx_region ?_
  refine sx rfl (stp_assign (v := .bool false) rfl ?_)
  refine sx_nil ?_
  refine wp_seq ?_
  refine wp_seq ?_
  refine sx_region ?_
  refine sx rfl (stp_move (v := .string s0) rfl ?_)
  refine sx rfl (stp_slen Tryd.underlying9 rfl ?_)
  refine sx rfl (stp_gtr rfl rfl ?_)
  refine sx_nil ?_
  refine sx_ifd rfl (fun h7p => ?_) (fun h7p => ?_)
  · skip
    refine wp_seq ?_
    refine sx_region ?_
    refine sx rfl (stp_assign (v := .bool true) rfl ?_)
    refine sx_nil ?_
    refine wr (ret1 Tryd.results6 rfl ?_)
    exact ⟨rfl, (St.start w).below⟩
  · skip
    refine wp_skip ?_
    refine wp_seq ?_
    refine sx_region ?_
    refine sx rfl (stp_move (v := .string s0) rfl ?_)
    refine sx rfl (stp_call1 Tryd.func20 rfl rfl ((ReadDeedSC w s0 (by omega)).mono ?_)); rintro _ W14 ⟨cs12, fp12, rfl, hk15⟩; refine ⟨_, rfl, ?_⟩
    have st16 := St.call (St.start w) hk15
    refine rn st16 3 Ag.nil.put.put.put.put.put.put.put [] [(17, .agg cs12.toArray), (18, .bool (rdB s0))] [] (by kernel_rfl) fun f19 h19_ => ?_
    refine sx rfl (stp_alloc zz_Deed st16 ?_); intro b20 W21 hb22 st23
    refine sxn rfl rfl (stp_store_all (cs := cs12) ld_Deed (own_C (st23.get 1 rfl) rfl) rfl (h19_.at 17) st23 rfl ?_); intro W25 st26
    refine sx rfl (stp_assign (v := .bool (rdB s0)) (h19_.at 18) ?_)
    refine sx_nil ?_
    refine wp_seq ?_
    refine sx_region ?_
    refine sx rfl (stp_move (v := .string s0) (h19_.at 0) ?_)
    refine sx rfl (stp_call1 Tryd.func21 rfl rfl ((ReadDeedIC W25 s0 (by omega) (gD.up st26.below hG)).mono ?_)); rintro _ W33 ⟨cs31, fp31, rfl, hk34⟩; refine ⟨_, rfl, ?_⟩
    have st35 := St.call st26 hk34
    refine rn st35 3 h19_.put.put.put.put [] [(22, .agg cs31.toArray), (23, .bool (rdB s0))] [] (by kernel_rfl) fun f38 h38_ => ?_
    refine sx rfl (stp_alloc zz_Deed st35 ?_); intro b39 W40 hb41 st42
    refine sxn rfl rfl (stp_store_all (cs := cs31) ld_Deed (own_C (st42.get 1 rfl) rfl) rfl (h38_.at 22) st42 rfl ?_); intro W44 st45
    refine sx rfl (stp_assign (v := .bool (rdB s0)) (h38_.at 23) ?_)
    refine sx_nil ?_
    refine wp_seq ?_
    refine wp_seq ?_
    refine sx_region ?_
    rcases bd (!(eqB (rdD s0) (rdD s0))) with h49 | h49
    · skip
      refine lw h38_.put.put [(0, .string s0), (3, .pointer (some ⟨b20, 0, none⟩)), (4, .bool (rdB s0)), (5, .pointer (some ⟨b39, 0, none⟩)), (6, .bool (rdB s0))] (by kernel_rfl) fun h51_ => ?_
      refine rc st45 7 h51_ [] [(28, .bool false), (29, .bool (rdB s0)), (30, .bool (rdB s0))] [qw 0 rfl (Shape.len (own_C (st45.get 1 rfl) rfl)), qw 2 rfl (Shape.len (own_C (st45.get 3 rfl) rfl)), qc Tryd.func19 rfl (fun W s b => eqDeed_n W (own_C (s.get 1 rfl) rfl) (own_C (s.get 3 rfl) rfl)), qk h49] (by kernel_rfl) fun f50 W52 h50_ st53 hb54 => ?_
      refine sx_on (j := 4) (dd := 28) rfl rfl (by decide) (yl_on (e := false) (h50_.at 28) rfl) (stp_bneq Tryd.underlying4 (h50_.at 29) (h50_.at 30) ?_)
      refine sx rfl (stp_pick_f (v := .bool (!((rdB s0) == (rdB s0)))) (h50_.at 28) rfl ?_)
      refine sx_nil ?_
      refine sx_if rfl (fun h57 => ?_) (fun h57 => ?_)
      · skip
        exact absurd (bnot_t h57) (by simp)
      · skip
        refine wp_skip ?_
        refine wp_seq ?_
        refine sx_region ?_
        refine sx rfl (stp_assign (v := I 1) rfl ?_)
        refine sx_nil ?_
        refine wp_seq ?_
        refine sx_region ?_
        refine sx rfl (stp_load_bxa ld_Deed rfl (h50_.at 5) (st53.get 0 rfl) (Shape.len (own_C (st53.get 1 rfl) rfl)) ?_)
        refine sx rfl (stp_move (v := I 1) rfl ?_)
        refine sx rfl (stp_call2 Tryd.func22 rfl rfl rfl ((markDeed_n st53.f1 1 (by omega) (by have := nt_Deed (rdD s0); omega)).mono ?_)); rintro _ W62 ⟨fp65, rfl, st64⟩; refine ⟨_, rfl, ?_⟩
        refine sx rfl (stp_assign (v := I (1 + (ntT_Deed (rdD s0) : Nat))) rfl ?_)
        refine sx_nil ?_
        refine wp_seq ?_
        refine sx_region ?_
        refine sx rfl (stp_assign (v := I 1) rfl ?_)
        refine sx_nil ?_
        refine wp_seq ?_
        refine sx_region ?_
        refine sx rfl (stp_load_bxa ld_Deed rfl (h50_.at 5) (st64.get 1 rfl) (Shape.len (own_C (st64.get 0 rfl) rfl)) ?_)
        refine sx rfl (stp_move (v := I 1) rfl ?_)
        refine sx rfl (stp_call2 Tryd.func23 rfl rfl rfl ((heldDeed_n W62 (x := (rdD s0)) (own_C (st64.get 0 rfl) rfl) (by omega) (by have := nt_Deed (rdD s0); omega)).mono ?_)); rintro _ W73 ⟨rfl, hk74⟩; refine ⟨_, rfl, ?_⟩
        have st75 := St.call st64 hk74
        refine sx rfl (stp_assign (v := I (1 + (ntT_Deed (rdD s0) : Nat))) rfl ?_)
        refine sx_nil ?_
        refine wp_seq ?_
        refine wp_seq ?_
        refine sx_region ?_
        refine sx rfl (stp_move (v := I (1 + (ntT_Deed (rdD s0) : Nat))) rfl ?_)
        refine sx rfl (stp_lss rfl rfl ?_)
        refine sx_nil ?_
        refine sx_ifd rfl (fun h81p => ?_) (fun h81p => ?_)
        · skip
          have h81 := decide_eq_true h81p
          omega
        · skip
          have h81 := decide_eq_false h81p
          refine wp_skip ?_
          refine wp_seq ?_
          refine wp_seq ?_
          refine sx_region ?_
          refine lw h50_.put.put.put.put.put.put.put.put.put.put.put.put.put.put [(0, .string s0), (3, .pointer (some ⟨b20, 0, none⟩)), (4, .bool (rdB s0)), (5, .pointer (some ⟨b39, 0, none⟩)), (7, I (1 + (ntT_Deed (rdD s0) : Nat))), (8, I (1 + (ntT_Deed (rdD s0) : Nat)))] (by kernel_rfl) fun h84_ => ?_
          refine rn st75 3 h84_ [] [(43, .bool (!decide (((1 + (ntT_Deed (rdD s0) : Nat)) : Int) = (1 + (ntT_Deed (rdD s0) : Nat)))))] [.o] (by kernel_rfl) fun f83 h83_ => ?_
          refine sx_nil ?_
          refine sx_ifn (h83_.at 43) (fun h85p => ?_) (fun h85p => ?_)
          · skip
            have h85 := nd_t h85p
            exact absurd rfl h85p
          · skip
            have h85 := nd_f h85p
            refine wp_skip ?_
            refine wp_seq ?_
            refine sx_region ?_
            refine sx rfl (stp_move (v := .string s0) (h83_.at 0) ?_)
            refine sx rfl (stp_call1 Tryd.func21 rfl rfl ((ReadDeedIC W73 s0 (by omega) (gD.up st75.below hG)).mono ?_)); rintro _ W90 ⟨cs88, fp88, rfl, hk91⟩; refine ⟨_, rfl, ?_⟩
            have st92 := St.call st75 hk91
            refine rn st92 3 h83_.put.put [] [(47, .agg cs88.toArray), (48, .bool (rdB s0))] [] (by kernel_rfl) fun f95 h95_ => ?_
            refine sx rfl (stp_alloc zz_Deed st92 ?_); intro b96 W97 hb98 st99
            refine sxn rfl rfl (stp_store_all (cs := cs88) ld_Deed (own_C (st99.get 1 rfl) rfl) rfl (h95_.at 47) st99 rfl ?_); intro W101 st102
            refine sx rfl (stp_assign (v := .bool (rdB s0)) (h95_.at 48) ?_)
            refine sx_nil ?_
            refine wp_seq ?_
            refine wp_seq ?_
            refine sx_region ?_
            refine rc st102 7 h95_.put.put [] [(53, .bool false), (54, .bool (rdB s0)), (55, .bool (rdB s0))] [qw 0 rfl (Shape.len (own_C (st102.get 1 rfl) rfl)), qw 4 rfl (Shape.len (own_C (st102.get 5 rfl) rfl)), qc Tryd.func19 rfl (fun W s b => eqDeed_n W (own_C (s.get 1 rfl) rfl) (own_C (s.get 5 rfl) rfl)), qk h49] (by kernel_rfl) fun f106 W107 h106_ st108 hb109 => ?_
            refine sx_on (j := 4) (dd := 53) rfl rfl (by decide) (yl_on (e := false) (h106_.at 53) rfl) (stp_bneq Tryd.underlying4 (h106_.at 54) (h106_.at 55) ?_)
            refine sx rfl (stp_pick_f (v := .bool (!((rdB s0) == (rdB s0)))) (h106_.at 53) rfl ?_)
            refine sx_nil ?_
            refine sx_f rfl h57 ?_
            refine wp_skip ?_
            refine wp_seq ?_
            refine sx_region ?_
            refine sx rfl (stp_assign (v := I 1) rfl ?_)
            refine sx_nil ?_
            refine wp_seq ?_
            refine sx_region ?_
            refine sx rfl (stp_load_bxa ld_Deed rfl (h106_.at 5) (st108.get 3 rfl) (Shape.len (own_C (st108.get 2 rfl) rfl)) ?_)
            refine sx rfl (stp_move (v := I 1) rfl ?_)
            refine sx rfl (stp_call2 Tryd.func23 rfl rfl rfl ((heldDeed_n W107 (x := (rdD s0)) (own_C (st108.get 2 rfl) rfl) (by omega) (by have := nt_Deed (rdD s0); omega)).mono ?_)); rintro _ W116 ⟨rfl, hk117⟩; refine ⟨_, rfl, ?_⟩
            have st118 := St.call st108 hk117
            refine sx rfl (stp_assign (v := I (1 + (ntT_Deed (rdD s0) : Nat))) rfl ?_)
            refine sx_nil ?_
            refine wp_seq ?_
            refine wp_seq ?_
            refine sx_region ?_
            refine sx rfl (stp_move (v := I (1 + (ntT_Deed (rdD s0) : Nat))) rfl ?_)
            refine sx rfl (stp_lss rfl rfl ?_)
            refine sx_nil ?_
            refine sx_f rfl h81 ?_
            refine wp_skip ?_
            refine wp_seq ?_
            refine wp_seq ?_
            refine sx_region ?_
            refine lw h106_.put.put.put.put.put.put.put.put.put [(7, I (1 + (ntT_Deed (rdD s0) : Nat))), (8, I (1 + (ntT_Deed (rdD s0) : Nat)))] (by kernel_rfl) fun h126_ => ?_
            refine rn st118 3 h126_ [] [(65, .bool false)] [qk h85] (by kernel_rfl) fun f125 h125_ => ?_
            refine sx_nil ?_
            refine sx_f (h125_.at 65) rfl ?_
            refine wp_skip ?_
            refine wp_seq ?_
            refine sx_region ?_
            refine sx rfl (stp_assign (v := .bool true) rfl ?_)
            refine sx_nil ?_
            refine wr (ret1 Tryd.results6 rfl ?_)
            exact ⟨rfl, st118.below⟩
    · skip
      exact absurd (bnot_t h49) (by rw [eqB_t rfl]; decide)
end Go.Proofs.YtchnllpegfbleaaDoor

/-
  What is handed to a law, taken out of the row's reading: it is data in memory, as the walks want it.
-/
namespace Go.Proofs.YtchnllpegfbleaaDoor
set_option linter.unusedSimpArgs false
set_option linter.unusedVariables false
set_option maxRecDepth 100000
open Go.ChangeShapes Go.WideShapes Go.ChangeAt Go.RowKit Go.Deep

/-- Cells of type t that the row reads stand for an α. -/
def Opens (t : TypeId) (α : Type) [Shape α] : Prop := ∀ {H : Type} (enc : TypeId × Value → H) (w : World) (fuel : Nat) (cs : List Value) (x : DataW H × List MemPlace),
  DataW.trod enc Tryd.prog w 0 (fun _ => true) true fuel t cs = some x → ∃ (a : α) (fp : List Nat), Shape.C w cs a fp

theorem wf_I64 {n : Int} (h : (Lit.int .i64 n).wf = true) : I64 n := by
  have := bounds_i64 h
  exact this

theorem opens_int : Opens 3 Int := by
  intro H enc w fuel cs x h
  obtain ⟨n, rfl, _, hw⟩ := DataW.trod_int Tryd.underlying3 h
  exact ⟨n, [], rfl, rfl, wf_I64 hw⟩

theorem opens_slice {t e : TypeId} {α : Type} [Shape α] (ht : Tryd.prog.underlying t = some (.slice e)) (hC : Tryd.prog.cellsOf e = Shape.size α) (hp : 0 < Shape.size α) (he : Opens e α) : Opens t (List α) := by
  intro H enc w fuel cs x h
  rcases open_slice ht h with ⟨rfl, _⟩ | ⟨a, len, cap, m, n, D, Pl, rfl, _, hl, hm, hmm, _, hi⟩
  · exact ⟨[], [], _, rfl, none, 0, rfl, Nat.le_refl _, by omega, .inl ⟨rfl, rfl⟩⟩
  · simp only [if_true] at hmm
    subst hmm
    unfold maxLen at hm
    have key : ∀ k, k ≤ len → 0 < len → ∃ (xs : List α) (fp : List Nat), xs.length = k ∧ a.spot = none ∧ SlAt w a.block a.off xs fp := by
      intro k
      induction k with
      | zero =>
        intro _ hlp
        obtain ⟨cs', hc, _⟩ := hi 0 (by omega)
        obtain ⟨_, hcl, hat⟩ := World.cells?_some hc
        rw [hC] at hcl hat
        have h0 := hat 0 hp
        have : a.spot = none := by
          have hlt : 0 < cs'.length := by omega
          rw [List.getElem?_eq_getElem hlt] at h0
          simpa [Addr.add] using World.cell?_spot h0
        exact ⟨[], [], rfl, this, rfl⟩
      | succ k ih =>
        intro hk hlp
        obtain ⟨xs, fp, hxl, hsp, hS⟩ := ih (by omega) hlp
        obtain ⟨cs', hc, ht'⟩ := hi k (by omega)
        obtain ⟨_, hcl, hat⟩ := World.cells?_some hc
        rw [hC] at hcl hat
        obtain ⟨x, f, hx⟩ := he enc w n cs' _ ht'
        refine ⟨xs ++ [x], fp ++ f, by simp [hxl], hsp, SlAt.snoc hS ?_ hx⟩
        intro j v hj
        have hjl : j < cs'.length := (List.getElem?_eq_some_iff.1 hj).1
        have := hat j (by omega)
        rw [hj] at this
        rw [← this, hxl]
        obtain ⟨ab, ao, asp⟩ := a
        simp only at hsp
        subst hsp
        rw [Addr.add_mid, Addr.add_mid]
    by_cases hlp : 0 < len
    · obtain ⟨xs, fp, hxl, hsp, hS⟩ := key len (Nat.le_refl _) hlp
      obtain ⟨ab, ao, asp⟩ := a
      simp only at hsp
      subst hsp
      subst hxl
      have hne : xs ≠ [] := by rintro rfl; simp at hlp
      refine ⟨xs, ab :: fp, _, rfl, _, m, rfl, hl, hm, .inr ⟨ab, ao, fp, hne, rfl, rfl, ?_, hS⟩⟩
      cases xs with
      | nil => exact absurd rfl hne
      | cons x xs =>
        obtain ⟨cs', f1, f2, hr, hc, _, _⟩ := hS
        have hl' := Shape.len hc
        have h0 := hr 0 _ (List.getElem?_eq_getElem (by omega))
        exact World.block_lt_of_cell? w _ h0
    · obtain rfl : len = 0 := by omega
      exact ⟨[], [], _, rfl, _, m, rfl, by simp, hm, .inl ⟨rfl, rfl⟩⟩

theorem opens_bool : Opens 4 Bool := by
  intro H enc w fuel cs x h
  cases fuel with
  | zero => simp [DataW.trod] at h
  | succ n =>
    unfold DataW.trod at h
    rw [Tryd.underlying4] at h
    split at h <;> first | exact ⟨_, [], rfl, rfl, trivial⟩ | simp_all
theorem opens_string : Opens 9 ByteArray := by
  intro H enc w fuel cs x h
  obtain ⟨s, rfl, _, hs⟩ := DataW.trod_string Tryd.underlying9 h
  exact ⟨s, [], rfl, rfl, hs⟩

/-- The arguments of a call that let alone what was there read behind it as they read before. -/
theorem trodAll_below {H : Type} {enc : TypeId × Value → H} {W W' : World} (hl : laidOutB Tryd.prog = true) (hb : Below W.heap.size W W') : ∀ {ts : List TypeId} {vs : List Value} {ds : List (DataW H)} {p : List MemPlace},
    (∀ t ∈ ts, Tryd.prog.readableRec t = true ∧ t < Tryd.prog.types.size) → DataW.TrodAll enc Tryd.prog W 0 (fun _ => true) true ts vs ds p → (∀ x ∈ p, x.block < W.heap.size) →
    DataW.TrodAll enc Tryd.prog W' 0 (fun b => decide (b < W.heap.size)) true ts vs ds p
  | [], _, _, _, _, h, _ => by
    obtain ⟨rfl, rfl, rfl⟩ := trodAll_nil h
    exact trodAll_mk0
  | t :: ts, _, _, _, ht, h, hp => by
    obtain ⟨v1, vs1, d1, ds1, p1, q1, rfl, rfl, rfl, h1, r1⟩ := trodAll_cons h
    exact trodAll_cons_mk (Below.trod hl (ht t (by simp)).1 (ht t (by simp)).2 h1 hb (fun x hx => hp x (by simp [hx]))) (trodAll_below hl hb (fun t' h' => ht t' (by simp [h'])) r1 (fun x hx => hp x (by simp [hx])))

/-- A parameter that is a slice. -/
theorem open_param_slice {H : Type} {enc : TypeId × Value → H} {W : World} {base : Nat} {t e : TypeId} {α : Type} [Shape α] (ht : Tryd.prog.underlying t = some (.slice e)) (ho : Opens t (List α)) {v : Value} {d : DataW H} {p : List MemPlace}
    (hv : Value.okWide Tryd.prog W .any base t v) (h : DataW.Trod enc Tryd.prog W 0 (fun _ => true) true t v d p) : ∃ (xs : List α) (fp : List Nat), Sl W v xs fp := by
  obtain ⟨a, len, cap, rfl⟩ := okWide_slice ht hv
  obtain ⟨fuel, hf⟩ := h
  obtain ⟨xs, fp, v', hv', hs⟩ := ho enc W fuel _ _ hf
  have : v' = .slice a len cap := (List.singleton_inj.1 hv').symm
  subst this
  exact ⟨xs, fp, hs⟩
/-- A parameter that is a struct. -/
theorem open_param_struct {H : Type} {enc : TypeId × Value → H} {W : World} {base : Nat} {t : TypeId} {fs : Array Field} {α : Type} [Shape α] (ht : Tryd.prog.underlying t = some (.struct fs)) (ho : Opens t α) {v : Value} {d : DataW H} {p : List MemPlace}
    (hv : Value.okWide Tryd.prog W .any base t v) (h : DataW.Trod enc Tryd.prog W 0 (fun _ => true) true t v d p) : ∃ (cs : List Value) (x : α) (fp : List Nat), v = .agg cs.toArray ∧ Shape.C W cs x fp := by
  obtain ⟨cs, rfl, hsz⟩ := okWide_struct ht hv
  obtain ⟨fuel, hf⟩ := h
  obtain ⟨x, fp, hc⟩ := ho enc W fuel _ _ hf
  exact ⟨cs.toList, x, fp, rfl, hc⟩
/-- A parameter that is an int. -/
theorem open_param_int {H : Type} {enc : TypeId × Value → H} {W : World} {base : Nat} {v : Value} {d : DataW H} {p : List MemPlace}
    (hv : Value.okWide Tryd.prog W .any base 3 v) (h : DataW.Trod enc Tryd.prog W 0 (fun _ => true) true 3 v d p) : ∃ n : Int, v = .int .i64 n ∧ I64 n := by
  obtain ⟨n, rfl, _, _, wn⟩ := open_int Tryd.underlying3 hv h
  exact ⟨n, rfl, wf_I64 wn⟩
theorem ownKnobTry : ownKnob Tryd.prog.godebug = none := by kernel_rfl
theorem laidOutTry : laidOutB Tryd.prog = true := by kernel_rfl
end Go.Proofs.YtchnllpegfbleaaDoor

/-
  A law's arguments, taken out of the row's reading. (Printed by a program of this project's: wip/gentypes.py.)
-/
namespace Go.Proofs.YtchnllpegfbleaaDoor
set_option linter.unusedSimpArgs false
set_option linter.unusedVariables false
set_option maxRecDepth 100000
open Go.ChangeShapes Go.WideShapes Go.ChangeAt Go.RowKit Go.Deep

theorem opens_intS : Opens 73 (List Int) := opens_slice Tryd.underlying73 (by kernel_rfl) (by decide) opens_int
theorem opens_Edge : Opens 105 Edge := by
  intro H enc w fuel cs x h
  obtain ⟨xs, n, _, hx, hl, hlen, hf⟩ := DataW.trod_struct Tryd.underlying105 h
  have hl' : cs.length = 2 := hl
  have hlen' : xs.length = 2 := hlen
  match cs, hl', xs, hlen' with
  | [c0, c1], _, [y0, y1], _ =>
    obtain ⟨n0, e0, _, w0⟩ := DataW.trod_int Tryd.underlying3 (hf 0 _ rfl)
    have e0' : [c0] = [I n0] := e0
    obtain rfl := List.singleton_inj.1 e0'
    obtain ⟨n1, e1, _, w1⟩ := DataW.trod_int Tryd.underlying3 (hf 1 _ rfl)
    have e1' : [c1] = [I n1] := e1
    obtain rfl := List.singleton_inj.1 e1'
    exact ⟨⟨n0, n1⟩, [], rfl, rfl, ⟨wf_I64 w0, wf_I64 w1⟩⟩
theorem opens_EdgeS : Opens 28 (List Edge) := opens_slice Tryd.underlying28 (by kernel_rfl) (by decide) opens_Edge
theorem opens_Plan : Opens 30 Plan := by
  intro H enc w fuel cs x h
  obtain ⟨xs, n, _, hx, hl, hlen, hf⟩ := DataW.trod_struct Tryd.underlying30 h
  have hl' : cs.length = 5 := hl
  have hlen' : xs.length = 5 := hlen
  match cs, hl', xs, hlen' with
  | [c0, c1, c2, c3, c4], _, [y0, y1, y2, y3, y4], _ =>
    obtain ⟨n0, e0, _, w0⟩ := DataW.trod_int Tryd.underlying3 (hf 0 _ rfl)
    have e0' : [c0] = [I n0] := e0
    obtain rfl := List.singleton_inj.1 e0'
    obtain ⟨n1, e1, _, w1⟩ := DataW.trod_int Tryd.underlying3 (hf 1 _ rfl)
    have e1' : [c1] = [I n1] := e1
    obtain rfl := List.singleton_inj.1 e1'
    obtain ⟨n2, e2, _, w2⟩ := DataW.trod_int Tryd.underlying3 (hf 2 _ rfl)
    have e2' : [c2] = [I n2] := e2
    obtain rfl := List.singleton_inj.1 e2'
    obtain ⟨n3, e3, _, w3⟩ := DataW.trod_int Tryd.underlying3 (hf 3 _ rfl)
    have e3' : [c3] = [I n3] := e3
    obtain rfl := List.singleton_inj.1 e3'
    obtain ⟨l4, g4, u4, e4, s4⟩ := opens_EdgeS enc w n _ _ (hf 4 _ rfl)
    have e4' : [c4] = [u4] := e4
    obtain rfl := List.singleton_inj.1 e4'
    exact ⟨⟨n0, n1, n2, n3, l4⟩, _, _, g4, rfl, ⟨wf_I64 w0, wf_I64 w1, wf_I64 w2, wf_I64 w3⟩, s4, rfl⟩
theorem opens_Task : Opens 94 Task := by
  intro H enc w fuel cs x h
  obtain ⟨xs, n, _, hx, hl, hlen, hf⟩ := DataW.trod_struct Tryd.underlying94 h
  have hl' : cs.length = 4 := hl
  have hlen' : xs.length = 4 := hlen
  match cs, hl', xs, hlen' with
  | [c0, c1, c2, c3], _, [y0, y1, y2, y3], _ =>
    obtain ⟨n0, e0, _, w0⟩ := DataW.trod_int Tryd.underlying3 (hf 0 _ rfl)
    have e0' : [c0] = [I n0] := e0
    obtain rfl := List.singleton_inj.1 e0'
    obtain ⟨n1, e1, _, w1⟩ := DataW.trod_int Tryd.underlying3 (hf 1 _ rfl)
    have e1' : [c1] = [I n1] := e1
    obtain rfl := List.singleton_inj.1 e1'
    obtain ⟨n2, e2, _, w2⟩ := DataW.trod_int Tryd.underlying3 (hf 2 _ rfl)
    have e2' : [c2] = [I n2] := e2
    obtain rfl := List.singleton_inj.1 e2'
    obtain ⟨n3, e3, _, w3⟩ := DataW.trod_int Tryd.underlying3 (hf 3 _ rfl)
    have e3' : [c3] = [I n3] := e3
    obtain rfl := List.singleton_inj.1 e3'
    exact ⟨⟨n0, n1, n2, n3⟩, [], rfl, rfl, ⟨wf_I64 w0, wf_I64 w1, wf_I64 w2, wf_I64 w3⟩⟩
theorem opens_TaskS : Opens 31 (List Task) := opens_slice Tryd.underlying31 (by kernel_rfl) (by decide) opens_Task
theorem opens_Run : Opens 33 Run := by
  intro H enc w fuel cs x h
  obtain ⟨xs, n, _, hx, hl, hlen, hf⟩ := DataW.trod_struct Tryd.underlying33 h
  have hl' : cs.length = 8 := hl
  have hlen' : xs.length = 4 := hlen
  match cs, hl', xs, hlen' with
  | [c0, c1, c2, c3, c4, c5, c6, c7], _, [y0, y1, y2, y3], _ =>
    obtain ⟨n0, e0, _, w0⟩ := DataW.trod_int Tryd.underlying3 (hf 0 _ rfl)
    have e0' : [c0] = [I n0] := e0
    obtain rfl := List.singleton_inj.1 e0'
    obtain ⟨z1, gz1, u1_0, g1_0, e1, ok1, s1_0, _⟩ := opens_Plan enc w n _ _ (hf 1 _ rfl)
    have e1' : [c1, c2, c3, c4, c5] = [I z1.prio, I z1.most, I z1.wait, I z1.tasks, u1_0] := e1
    simp only [List.cons.injEq, and_true] at e1'
    obtain ⟨rfl, rfl, rfl, rfl, rfl⟩ := e1'
    obtain ⟨n2, e2, _, w2⟩ := DataW.trod_int Tryd.underlying3 (hf 2 _ rfl)
    have e2' : [c6] = [I n2] := e2
    obtain rfl := List.singleton_inj.1 e2'
    obtain ⟨l3, g3, u3, e3, s3⟩ := opens_TaskS enc w n _ _ (hf 3 _ rfl)
    have e3' : [c7] = [u3] := e3
    obtain rfl := List.singleton_inj.1 e3'
    exact ⟨⟨n0, z1, n2, l3⟩, _, _, _, g1_0, g3, rfl, ⟨wf_I64 w0, ok1, wf_I64 w2⟩, s1_0, s3, rfl⟩
theorem opens_Reply : Opens 23 Reply := by
  intro H enc w fuel cs x h
  obtain ⟨xs, n, _, hx, hl, hlen, hf⟩ := DataW.trod_struct Tryd.underlying23 h
  have hl' : cs.length = 4 := hl
  have hlen' : xs.length = 4 := hlen
  match cs, hl', xs, hlen' with
  | [c0, c1, c2, c3], _, [y0, y1, y2, y3], _ =>
    obtain ⟨n0, e0, _, w0⟩ := DataW.trod_int Tryd.underlying3 (hf 0 _ rfl)
    have e0' : [c0] = [I n0] := e0
    obtain rfl := List.singleton_inj.1 e0'
    obtain ⟨n1, e1, _, w1⟩ := DataW.trod_int Tryd.underlying3 (hf 1 _ rfl)
    have e1' : [c1] = [I n1] := e1
    obtain rfl := List.singleton_inj.1 e1'
    obtain ⟨n2, e2, _, w2⟩ := DataW.trod_int Tryd.underlying3 (hf 2 _ rfl)
    have e2' : [c2] = [I n2] := e2
    obtain rfl := List.singleton_inj.1 e2'
    obtain ⟨n3, e3, _, w3⟩ := DataW.trod_int Tryd.underlying3 (hf 3 _ rfl)
    have e3' : [c3] = [I n3] := e3
    obtain rfl := List.singleton_inj.1 e3'
    exact ⟨⟨n0, n1, n2, n3⟩, [], rfl, rfl, ⟨wf_I64 w0, wf_I64 w1, wf_I64 w2, wf_I64 w3⟩⟩
theorem opens_Deed : Opens 46 Deed := by
  intro H enc w fuel cs x h
  obtain ⟨xs, n, _, hx, hl, hlen, hf⟩ := DataW.trod_struct Tryd.underlying46 h
  have hl' : cs.length = 11 := hl
  have hlen' : xs.length = 7 := hlen
  match cs, hl', xs, hlen' with
  | [c0, c1, c2, c3, c4, c5, c6, c7, c8, c9, c10], _, [y0, y1, y2, y3, y4, y5, y6], _ =>
    obtain ⟨n0, e0, _, w0⟩ := DataW.trod_int Tryd.underlying3 (hf 0 _ rfl)
    have e0' : [c0] = [I n0] := e0
    obtain rfl := List.singleton_inj.1 e0'
    obtain ⟨n1, e1, _, w1⟩ := DataW.trod_int Tryd.underlying3 (hf 1 _ rfl)
    have e1' : [c1] = [I n1] := e1
    obtain rfl := List.singleton_inj.1 e1'
    obtain ⟨z2, gz2, u2_0, g2_0, e2, ok2, s2_0, _⟩ := opens_Plan enc w n _ _ (hf 2 _ rfl)
    have e2' : [c2, c3, c4, c5, c6] = [I z2.prio, I z2.most, I z2.wait, I z2.tasks, u2_0] := e2
    simp only [List.cons.injEq, and_true] at e2'
    obtain ⟨rfl, rfl, rfl, rfl, rfl⟩ := e2'
    obtain ⟨n3, e3, _, w3⟩ := DataW.trod_int Tryd.underlying3 (hf 3 _ rfl)
    have e3' : [c7] = [I n3] := e3
    obtain rfl := List.singleton_inj.1 e3'
    obtain ⟨n4, e4, _, w4⟩ := DataW.trod_int Tryd.underlying3 (hf 4 _ rfl)
    have e4' : [c8] = [I n4] := e4
    obtain rfl := List.singleton_inj.1 e4'
    obtain ⟨n5, e5, _, w5⟩ := DataW.trod_int Tryd.underlying3 (hf 5 _ rfl)
    have e5' : [c9] = [I n5] := e5
    obtain rfl := List.singleton_inj.1 e5'
    obtain ⟨n6, e6, _, w6⟩ := DataW.trod_int Tryd.underlying3 (hf 6 _ rfl)
    have e6' : [c10] = [I n6] := e6
    obtain rfl := List.singleton_inj.1 e6'
    exact ⟨⟨n0, n1, z2, n3, n4, n5, n6⟩, _, _, g2_0, rfl, ⟨wf_I64 w0, wf_I64 w1, ok2, wf_I64 w3, wf_I64 w4, wf_I64 w5, wf_I64 w6⟩, s2_0, rfl⟩
end Go.Proofs.YtchnllpegfbleaaDoor
