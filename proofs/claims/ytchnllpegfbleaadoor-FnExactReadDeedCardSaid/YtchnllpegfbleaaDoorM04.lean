/-
  Texts of this claim, laid behind one another: DeedL, RdP, RdQ, Dat, Dct, Dop, Part, Field.
-/
import Derived.Test.YtchnllpegfbleaaDoorM03
import Derived.Lib.SplitLaws
import Derived.Lib.AtoiTie
/-
  DeedLine: of the program and of the reference. (Printed by a program of this project's.)
-/
namespace Go.Proofs.YtchnllpegfbleaaDoor
set_option linter.unusedSimpArgs false
set_option linter.unusedVariables false
set_option maxRecDepth 100000
open Go.RowKit


/-- What a kind of deed is called. -/
def deedWs : List ByteArray := [(⟨#[115, 117, 98, 109, 105, 116]⟩ : ByteArray), (⟨#[112, 111, 108, 108]⟩ : ByteArray), (⟨#[100, 111, 110, 101]⟩ : ByteArray), (⟨#[102, 97, 105, 108]⟩ : ByteArray), (⟨#[116, 105, 99, 107]⟩ : ByteArray), (⟨#[99, 97, 110, 99, 101, 108]⟩ : ByteArray), (⟨#[102, 111, 114, 103, 101, 116]⟩ : ByteArray), (⟨#[115, 116, 97, 114, 116]⟩ : ByteArray)]
def deedW (k : Int) : ByteArray := deedWs.getD (k - 1).toNat ⟨#[]⟩
theorem deedW_size (k : Int) : (deedW k).size ≤ 6 := by
  unfold deedW
  have : ∀ i : Nat, (deedWs.getD i ⟨#[]⟩).size ≤ 6 := by
    intro i
    rcases i with _ | _ | _ | _ | _ | _ | _ | _ | i
    · decide
    · decide
    · decide
    · decide
    · decide
    · decide
    · decide
    · decide
    · simp [deedWs, bsz]
  exact this _
theorem deedW_I {k : Int} (h : 1 ≤ k ∧ k ≤ 8) (hl : (k - 1).toNat < ([(⟨#[115, 117, 98, 109, 105, 116]⟩ : ByteArray), (⟨#[112, 111, 108, 108]⟩ : ByteArray), (⟨#[100, 111, 110, 101]⟩ : ByteArray), (⟨#[102, 97, 105, 108]⟩ : ByteArray), (⟨#[116, 105, 99, 107]⟩ : ByteArray), (⟨#[99, 97, 110, 99, 101, 108]⟩ : ByteArray), (⟨#[102, 111, 114, 103, 101, 116]⟩ : ByteArray), (⟨#[115, 116, 97, 114, 116]⟩ : ByteArray)] : List ByteArray).length) : ([(⟨#[115, 117, 98, 109, 105, 116]⟩ : ByteArray), (⟨#[112, 111, 108, 108]⟩ : ByteArray), (⟨#[100, 111, 110, 101]⟩ : ByteArray), (⟨#[102, 97, 105, 108]⟩ : ByteArray), (⟨#[116, 105, 99, 107]⟩ : ByteArray), (⟨#[99, 97, 110, 99, 101, 108]⟩ : ByteArray), (⟨#[102, 111, 114, 103, 101, 116]⟩ : ByteArray), (⟨#[115, 116, 97, 114, 116]⟩ : ByteArray)] : List ByteArray)[(k - 1).toNat] = deedW k := by
  unfold deedW deedWs
  rw [List.getD_eq_getElem?_getD, List.getElem?_eq_getElem hl]; rfl
theorem deedW_S {k : Int} (h : 1 ≤ k ∧ k ≤ 8) (hl : k.toNat < ([⟨#[]⟩, (⟨#[115, 117, 98, 109, 105, 116]⟩ : ByteArray), (⟨#[112, 111, 108, 108]⟩ : ByteArray), (⟨#[100, 111, 110, 101]⟩ : ByteArray), (⟨#[102, 97, 105, 108]⟩ : ByteArray), (⟨#[116, 105, 99, 107]⟩ : ByteArray), (⟨#[99, 97, 110, 99, 101, 108]⟩ : ByteArray), (⟨#[102, 111, 114, 103, 101, 116]⟩ : ByteArray), (⟨#[115, 116, 97, 114, 116]⟩ : ByteArray)] : List ByteArray).length) : ([⟨#[]⟩, (⟨#[115, 117, 98, 109, 105, 116]⟩ : ByteArray), (⟨#[112, 111, 108, 108]⟩ : ByteArray), (⟨#[100, 111, 110, 101]⟩ : ByteArray), (⟨#[102, 97, 105, 108]⟩ : ByteArray), (⟨#[116, 105, 99, 107]⟩ : ByteArray), (⟨#[99, 97, 110, 99, 101, 108]⟩ : ByteArray), (⟨#[102, 111, 114, 103, 101, 116]⟩ : ByteArray), (⟨#[115, 116, 97, 114, 116]⟩ : ByteArray)] : List ByteArray)[k.toNat] = deedW k := by
  have hk : k = 1 ∨ k = 2 ∨ k = 3 ∨ k = 4 ∨ k = 5 ∨ k = 6 ∨ k = 7 ∨ k = 8 := by omega
  rcases hk with rfl | rfl | rfl | rfl | rfl | rfl | rfl | rfl <;> rfl
def edgeB (s : ByteArray) (e : Edge) : ByteArray := s ++ ((((⟨#[32]⟩ : ByteArray) ++ itoaB e.from_) ++ (⟨#[62]⟩ : ByteArray)) ++ itoaB e.to_)
def edgesB (s : ByteArray) (es : List Edge) : ByteArray := es.foldl edgeB s
theorem edgesB_step {s : ByteArray} {es : List Edge} {k : Nat} (hk : k < es.length) : edgesB s (es.take (k + 1)) = edgeB (edgesB s (es.take k)) es[k] := by
  unfold edgesB
  rw [List.take_succ_eq_append_getElem hk, List.foldl_append]; rfl
theorem edgesB_size {s : ByteArray} : ∀ {es : List Edge}, (∀ e ∈ es, e.ok) → (edgesB s es).size ≤ s.size + 44 * es.length := by
  intro es
  induction es generalizing s with
  | nil => intro _; simp [edgesB]
  | cons e es ih =>
    intro h
    have h1 := ih (s := edgeB s e) (fun m hm => h m (by simp [hm]))
    have h0 := h e (by simp)
    simp only [Edge.ok, I64] at h0
    have h2 := itoaB_size (z := e.from_) (by omega)
    have h3 := itoaB_size (z := e.to_) (by omega)
    have e1 : edgesB s (e :: es) = edgesB (edgeB s e) es := rfl
    rw [e1]
    simp only [edgeB, ByteArray.size_append, bsz, List.size_toArray, List.length_cons, List.length_nil] at h1 ⊢
    omega
theorem Elems.edges {W : World} : ∀ {xs : List Edge} {cells : List Value} {fp : List Nat}, Elems W cells xs fp → ∀ x ∈ xs, x.ok
  | [], _, _, _ => by simp
  | x :: xs, _, _, ⟨cs, rest, f1, f2, h1, h2, h3, h4⟩ => fun y hy => by
    rcases List.mem_cons.1 hy with rfl | hy
    · exact h2.2.2
    · exact Elems.edges h3 y hy
theorem Sl_edges {w : World} {v : Value} {xs : List Edge} {fp : List Nat} (h : Sl w v xs fp) : ∀ x ∈ xs, x.ok := by
  obtain ⟨ao, cap, rfl, h1, h2, h3⟩ := h
  rcases h3 with ⟨rfl, _⟩ | ⟨b, off, f, _, rfl, rfl, _, h3⟩
  · simp
  · obtain ⟨cells, he, _⟩ := Elems.of_at off h3
    exact he.edges
def lineNums (d : Deed) : List Int := if d.kind = 1 then [d.run, d.plan.prio, d.plan.most, d.plan.wait, d.plan.tasks] else deedNums d
def deedLine (d : Deed) : ByteArray := if deedOk d then edgesB (saidB (deedW d.kind) (lineNums d)) d.plan.edges else ⟨#[]⟩
theorem deedOk_facts {d : Deed} (h : deedOk d = true) : (1 ≤ d.kind ∧ d.kind ≤ 8) ∧ d.plan.edges.length ≤ 31 ∧ (¬ d.kind = 1 → d.plan.edges = []) := by
  simp only [deedOk, Bool.and_eq_true, decide_eq_true_eq] at h
  obtain ⟨⟨⟨h1, h2⟩, h3⟩, h4⟩ := h
  refine ⟨inB_iff'.1 h1, h2, fun hk => ?_⟩
  have h5 := eqB_iff.1 h3
  rw [h5]
  unfold usedD
  rw [if_neg hk]
  split
  · rfl
  · split
    · rfl
    · split <;> rfl
theorem lineNums_len (d : Deed) : (lineNums d).length ≤ 6 := by
  unfold lineNums deedNums
  split
  · simp
  · split
    · simp
    · split
      · simp
      · split <;> simp

theorem lineNums_64 {d : Deed} (h : (-9223372036854775808 ≤ d.kind ∧ d.kind ≤ 9223372036854775807) ∧ (-9223372036854775808 ≤ d.run ∧ d.run ≤ 9223372036854775807) ∧ ((-9223372036854775808 ≤ d.plan.prio ∧ d.plan.prio ≤ 9223372036854775807) ∧ (-9223372036854775808 ≤ d.plan.most ∧ d.plan.most ≤ 9223372036854775807) ∧ (-9223372036854775808 ≤ d.plan.wait ∧ d.plan.wait ≤ 9223372036854775807) ∧ (-9223372036854775808 ≤ d.plan.tasks ∧ d.plan.tasks ≤ 9223372036854775807)) ∧ (-9223372036854775808 ≤ d.task ∧ d.task ≤ 9223372036854775807) ∧ (-9223372036854775808 ≤ d.try_ ∧ d.try_ ≤ 9223372036854775807) ∧ (-9223372036854775808 ≤ d.worker ∧ d.worker ≤ 9223372036854775807) ∧ (-9223372036854775808 ≤ d.draw ∧ d.draw ≤ 9223372036854775807))
    (hd : (1 ≤ d.kind ∧ d.kind ≤ 8) ∧ d.plan.edges.length ≤ 31 ∧ (¬ d.kind = 1 → d.plan.edges = [])) : ∀ n ∈ lineNums d, I64 n := by
  intro n hn
  unfold lineNums deedNums at hn
  simp only [I64]
  split at hn
  · simp only [List.mem_cons, List.not_mem_nil, or_false] at hn; omega
  · split at hn
    · simp only [List.mem_cons, List.not_mem_nil, or_false] at hn; omega
    · split at hn
      · simp only [List.mem_cons, List.not_mem_nil, or_false] at hn; omega
      · split at hn
        · simp only [List.mem_cons, List.not_mem_nil, or_false] at hn; omega
        · cases hn

set_option maxHeartbeats 2000000 in
theorem DeedWordI (w : World) (k : Int) (hk : 1 ≤ k ∧ k ≤ 8) :
    Calls Tryd.prog 37 #[I k] w fun e w' => e = .returned (.string (deedW k)) ∧ St w w' [] := by
  refine enter1 Tryd.func37 rfl Tryd.ntmps37 (by decide) ?_
  refine wp_seq ?_
  refine sx_region ?_
  refine sx rfl (stp_assign (v := .string (⟨#[]⟩ : ByteArray)) rfl ?_)
  refine sx_nil ?_
  refine wp_seq ?_
  refine sx_region ?_
  refine sx rfl (stp_buildSlice (cs := [.string (⟨#[115, 117, 98, 109, 105, 116]⟩ : ByteArray), .string (⟨#[112, 111, 108, 108]⟩ : ByteArray), .string (⟨#[100, 111, 110, 101]⟩ : ByteArray), .string (⟨#[102, 97, 105, 108]⟩ : ByteArray), .string (⟨#[116, 105, 99, 107]⟩ : ByteArray), .string (⟨#[99, 97, 110, 99, 101, 108]⟩ : ByteArray), .string (⟨#[102, 111, 114, 103, 101, 116]⟩ : ByteArray), .string (⟨#[115, 116, 97, 114, 116]⟩ : ByteArray)]) (e := 9) (pcons (v := .string (⟨#[115, 117, 98, 109, 105, 116]⟩ : ByteArray)) rfl (pcons (v := .string (⟨#[112, 111, 108, 108]⟩ : ByteArray)) rfl (pcons (v := .string (⟨#[100, 111, 110, 101]⟩ : ByteArray)) rfl (pcons (v := .string (⟨#[102, 97, 105, 108]⟩ : ByteArray)) rfl (pcons (v := .string (⟨#[116, 105, 99, 107]⟩ : ByteArray)) rfl (pcons (v := .string (⟨#[99, 97, 110, 99, 101, 108]⟩ : ByteArray)) rfl (pcons (v := .string (⟨#[102, 111, 114, 103, 101, 116]⟩ : ByteArray)) rfl (pcons (v := .string (⟨#[115, 116, 97, 114, 116]⟩ : ByteArray)) rfl pnil)))))))) (run_buildSliceN ap_StringS _ rfl (lc_cons rfl (lc_cons rfl (lc_cons rfl (lc_cons rfl (lc_cons rfl (lc_cons rfl (lc_cons rfl (lc_cons rfl lc_nil))))))))) (St.start w) ?_); intro b1 W2 hb3 st4
  refine sx rfl (stp_assign (v := .slice (some ⟨b1, 0, none⟩) 8 8) rfl ?_)
  refine sx_nil ?_
  refine wp_seq ?_
  refine wp_seq ?_
  refine sx_region ?_
  refine sx rfl (stp_move (v := I k) rfl ?_)
  refine sx rfl (stp_call3 Tryd.func53 rfl rfl rfl rfl ((within_n W2 k 1 8).mono ?_)); rintro _ W6 ⟨rfl, hk7⟩; refine ⟨_, rfl, ?_⟩
  have st8 := St.call st4 hk7
  refine sx rfl (stp_not rfl ?_)
  refine sx_nil ?_
  refine sx_if rfl (fun h10 => ?_) (fun h10 => ?_)
  · skip
    have h10p := inB_not (bnot_t h10)
    omega
  · skip
    have h10p := inB_iff'.1 (bnot_f h10)
    refine wp_skip ?_
    refine wp_seq ?_
    refine sx_region ?_
    refine sx rfl (stp_move (v := .slice (some ⟨b1, 0, none⟩) 8 8) rfl ?_)
    refine sx rfl (stp_move (v := I k) rfl ?_)
    refine sx rfl (stp_sub rfl rfl (by (simp only [I64] at *; omega)) ?_)
    have st11 := St.row_lit (α := ByteArray) (ys := [(⟨#[115, 117, 98, 109, 105, 116]⟩ : ByteArray), (⟨#[112, 111, 108, 108]⟩ : ByteArray), (⟨#[100, 111, 110, 101]⟩ : ByteArray), (⟨#[102, 97, 105, 108]⟩ : ByteArray), (⟨#[116, 105, 99, 107]⟩ : ByteArray), (⟨#[99, 97, 110, 99, 101, 108]⟩ : ByteArray), (⟨#[102, 111, 114, 103, 101, 116]⟩ : ByteArray), (⟨#[115, 116, 97, 114, 116]⟩ : ByteArray)]) st8 rfl (Nat.le_of_ble_eq_true rfl) (Elems.sc (by simp only [bsz, List.size_toArray, List.length_cons, List.length_nil, maxLen]; omega) (Elems.sc (by simp only [bsz, List.size_toArray, List.length_cons, List.length_nil, maxLen]; omega) (Elems.sc (by simp only [bsz, List.size_toArray, List.length_cons, List.length_nil, maxLen]; omega) (Elems.sc (by simp only [bsz, List.size_toArray, List.length_cons, List.length_nil, maxLen]; omega) (Elems.sc (by simp only [bsz, List.size_toArray, List.length_cons, List.length_nil, maxLen]; omega) (Elems.sc (by simp only [bsz, List.size_toArray, List.length_cons, List.length_nil, maxLen]; omega) (Elems.sc (by simp only [bsz, List.size_toArray, List.length_cons, List.length_nil, maxLen]; omega) (Elems.sc (by simp only [bsz, List.size_toArray, List.length_cons, List.length_nil, maxLen]; omega) Elems.s0))))))))
    have hia6dd3 : (k - 1).toNat < ([(⟨#[115, 117, 98, 109, 105, 116]⟩ : ByteArray), (⟨#[112, 111, 108, 108]⟩ : ByteArray), (⟨#[100, 111, 110, 101]⟩ : ByteArray), (⟨#[102, 97, 105, 108]⟩ : ByteArray), (⟨#[116, 105, 99, 107]⟩ : ByteArray), (⟨#[99, 97, 110, 99, 101, 108]⟩ : ByteArray), (⟨#[102, 111, 114, 103, 101, 116]⟩ : ByteArray), (⟨#[115, 116, 97, 114, 116]⟩ : ByteArray)]).length := (by simp only [List.length_cons, List.length_nil]; omega)
    have hq_ := idx (row_Sl (st11.get 0 rfl)) (i := (k - 1).toNat) hia6dd3
    obtain ⟨b12, o12, cs12, f12, hp12, hr12, hc12, hm12⟩ := hq_
    have hk12 := hc12
    obtain ⟨rfl, rfl, hok12⟩ := hk12
    refine sx rfl (stp_indexAddr sl_StringS rfl hp12 rfl (by omega) ?_)
    refine sx rfl (stp_load_rg ld_string rfl rfl hr12 (Below.refl _ _) (i := 0) rfl rfl ?_)
    refine sx rfl (stp_assign (v := .string (([(⟨#[115, 117, 98, 109, 105, 116]⟩ : ByteArray), (⟨#[112, 111, 108, 108]⟩ : ByteArray), (⟨#[100, 111, 110, 101]⟩ : ByteArray), (⟨#[102, 97, 105, 108]⟩ : ByteArray), (⟨#[116, 105, 99, 107]⟩ : ByteArray), (⟨#[99, 97, 110, 99, 101, 108]⟩ : ByteArray), (⟨#[102, 111, 114, 103, 101, 116]⟩ : ByteArray), (⟨#[115, 116, 97, 114, 116]⟩ : ByteArray)])[(k - 1).toNat]'hia6dd3)) rfl ?_)
    refine sx_nil ?_
    refine wp_ret ?_; repeat (first | refine then_ret ?_ | refine blk_ret ?_)
    refine ret1 Tryd.results37 rfl ?_
    exact ⟨(congrArg (fun z => Ending.returned (.string z)) (deedW_I (by omega) _)), st11.bare⟩
set_option maxHeartbeats 2000000 in
theorem DeedLineI (w : World) {d : Deed} {cs : List Value} {fp : List Nat} (hc : Shape.C w cs d fp) (htab : Lib.TabIs Tryd.prog w "internal/strconv.uint64pow10" .u64 Lib.pow10Tab) :
    Calls Tryd.prog 18 #[.agg cs.toArray] w fun e w' => e = .returned (.string (deedLine d)) ∧ St w w' [] := by
  have hed : ∀ e ∈ d.plan.edges, e.ok := by have h0 := hc; obtain ⟨v1, f1, h0, hok, h1, hfp⟩ := h0; exact Sl_edges h1
  have hd64 : d.ok := by have h0 := hc; obtain ⟨v1, f1, h0, hok, h1, hfp⟩ := h0; exact hok
  simp only [Deed.ok, Plan.ok, I64] at hd64
  refine enter1 Tryd.func18 rfl Tryd.ntmps18 (by decide) ?_
  refine wp_seq ?_
  refine sx_region ?_
  refine sx rfl (stp_box_agg (cs := cs) rfl (St.start w) ?_); intro b1 W2 hb3 st4
  refine sx rfl (stp_assign (v := .string (⟨#[]⟩ : ByteArray)) rfl ?_)
  refine sx_nil ?_
  refine wp_seq ?_
  refine wp_seq ?_
  refine sx_region ?_
  refine sx rfl (stp_load_bxa ld_Deed rfl rfl (st4.get 0 rfl) (Shape.len hc) ?_)
  refine sx rfl (stp_call1 Tryd.func36 rfl rfl ((DeedOkI W2 (C_below hc st4.below)).mono ?_)); rintro _ W6 ⟨rfl, hk7⟩; refine ⟨_, rfl, ?_⟩
  have st8 := St.call st4 hk7
  refine sx rfl (stp_not rfl ?_)
  refine sx_nil ?_
  refine sx_if rfl (fun h10 => ?_) (fun h10 => ?_)
  · skip
    refine wp_seq ?_
    refine sx_region ?_
    refine sx rfl (stp_assign (v := .string (⟨#[]⟩ : ByteArray)) rfl ?_)
    refine sx_nil ?_
    refine wp_ret ?_; repeat (first | refine then_ret ?_ | refine blk_ret ?_)
    refine ret1 Tryd.results18 rfl ?_
    exact ⟨(congrArg (fun z => Ending.returned (.string z)) (by unfold deedLine; rw [(bnot_t h10)]; rfl)), st8.bare⟩
  · skip
    refine wp_skip ?_
    refine wp_seq ?_
    refine wp_seq ?_
    refine sx_region ?_
    have hdf := deedOk_facts (bnot_f h10)
    refine sx rfl (stp_fieldAddr fa_Deed_0 rfl ?_)
    have hk11 := hc
    obtain ⟨v11_0, g11_0, rfl, hok11, h11_0, rfl⟩ := hk11
    refine sx rfl (stp_load_bx ld_int rfl rfl (st8.get 0 rfl) (i := 0) rfl rfl ?_)
    refine sx rfl (stp_neq rfl rfl ?_)
    refine sx_nil ?_
    refine sx_if rfl (fun h12 => ?_) (fun h12 => ?_)
    · skip
      have h12p := of_decide_eq_false (bnot_t h12)
      refine wp_seq ?_
      have hdn := lineNums_len d
      have hln : lineNums d = deedNums d := by unfold lineNums; rw [if_neg (by omega)]
      rw [hln] at hdn
      refine sx_any [Pl.is (.pointer (some ⟨b1, 0 + 0, none⟩)), Pl.is (I d.kind), Pl.is (.string (deedW d.kind)), Pl.is (.agg #[I d.kind, I d.run, I d.plan.prio, I d.plan.most, I d.plan.wait, I d.plan.tasks, v11_0, I d.task, I d.try_, I d.worker, I d.draw]), Pl.ssl (α := Int) (deedNums d), Pl.is (.string (saidB (deedW d.kind) (deedNums d))), Pl.is (.string (saidB (deedW d.kind) (deedNums d)))] mix (by rfl) st8 ⟨(fun f W hst hbl hd hf => stp_fieldAddr fa_Deed_0 ((hf 1 rfl).trans (show _ = (.pointer (some ⟨b1, 0, none⟩) : Value) from rfl)) ⟨Below.refl _ _, rfl⟩), (fun f W hst hbl hd hf => stp_load_bx ld_int rfl (hd 0 12 rfl rfl) (hst.get 0 rfl) (i := 0) rfl rfl ⟨Below.refl _ _, rfl⟩), (fun f W hst hbl hd hf => stp_call1 Tryd.func37 rfl (hd 1 13 rfl rfl) ((DeedWordI W d.kind (by omega)).mono (by rintro e W2 ⟨rfl, hk⟩; exact ⟨_, rfl, hk.below, rfl⟩))), (fun f W hst hbl hd hf => stp_load_bxs (cs := [I d.kind, I d.run, I d.plan.prio, I d.plan.most, I d.plan.wait, I d.plan.tasks, v11_0, I d.task, I d.try_, I d.worker, I d.draw]) ld_Deed rfl ((hf 1 rfl).trans (show _ = (.pointer (some ⟨b1, 0, none⟩) : Value) from rfl)) (hst.get 0 rfl) rfl rfl ⟨Below.refl _ _, rfl⟩), (fun f W hst hbl hd hf => stp_call1 Tryd.func38 rfl (hd 3 15 rfl rfl) ((deedNumsI W (C_below hc hst.below) (by omega)).mono (by rintro e W2 ⟨v, fp, rfl, hk⟩; exact ⟨_, rfl, hk.below, fp, own_Sl (hk.get 0 rfl)⟩))), (fun f W hst hbl hd hf => by obtain ⟨fp15, h15⟩ := hd 4 16 rfl rfl; exact stp_call2 Tryd.func25 rfl (hd 2 14 rfl rfl) rfl ((SaidI W (deedW d.kind) h15 (by have hws := deedW_size d.kind; (try simp only [List.length_cons, List.length_nil]); omega) (TabIs.below htab hst.below)).mono (by rintro e W2 ⟨rfl, hk⟩; exact ⟨_, rfl, hk.below, rfl⟩))), (fun f W hst hbl hd hf => stp_assign (v := .string (saidB (deedW d.kind) (deedNums d))) (hd 5 17 rfl rfl) ⟨Below.refl _ _, rfl⟩), trivial⟩ ?_
      intro f16 W17 st18 hb19 hv20 hf21
      have hq_ := hv20 4 16 (by decide) rfl
      obtain ⟨fp22, h22⟩ := hq_
      refine wp_ret ?_; repeat (first | refine then_ret ?_ | refine blk_ret ?_)
      refine ret1 Tryd.results18 (hv20 6 2 (by decide) rfl) ?_
      have st23 := St.call st18 (St.start W17)
      exact ⟨(congrArg (fun z => Ending.returned (.string z)) (by unfold deedLine lineNums; rw [(bnot_f h10), if_pos rfl, if_neg (by omega), hdf.2.2 (by omega)]; rfl)), st23.bare⟩
    · skip
      have h12p := of_decide_eq_true (bnot_f h12)
      refine wp_skip ?_
      refine wp_seq ?_
      refine sx_any [Pl.is (.pointer (some ⟨b1, 0 + 0, none⟩)), Pl.is (I d.kind), Pl.is (.string (deedW d.kind)), Pl.is (.pointer (some ⟨b1, 0 + 1, none⟩)), Pl.is (I d.run), Pl.is (.pointer (some ⟨b1, 0 + 2, none⟩)), Pl.is (.pointer (some ⟨b1, 0 + 2 + 0, none⟩)), Pl.is (I d.plan.prio), Pl.is (.pointer (some ⟨b1, 0 + 2, none⟩)), Pl.is (.pointer (some ⟨b1, 0 + 2 + 1, none⟩)), Pl.is (I d.plan.most), Pl.is (.pointer (some ⟨b1, 0 + 2, none⟩)), Pl.is (.pointer (some ⟨b1, 0 + 2 + 2, none⟩)), Pl.is (I d.plan.wait), Pl.is (.pointer (some ⟨b1, 0 + 2, none⟩)), Pl.is (.pointer (some ⟨b1, 0 + 2 + 3, none⟩)), Pl.is (I d.plan.tasks), Pl.blk W6.heap.size [I d.run, I d.plan.prio, I d.plan.most, I d.plan.wait, I d.plan.tasks] 3 5, Pl.is (.string (saidB (deedW d.kind) ([d.run, d.plan.prio, d.plan.most, d.plan.wait, d.plan.tasks]))), Pl.is (.string (saidB (deedW d.kind) ([d.run, d.plan.prio, d.plan.most, d.plan.wait, d.plan.tasks])))] mix (by rfl) st8 ⟨(fun f W hst hbl hd hf => stp_fieldAddr fa_Deed_0 ((hf 1 rfl).trans (show _ = (.pointer (some ⟨b1, 0, none⟩) : Value) from rfl)) ⟨Below.refl _ _, rfl⟩), (fun f W hst hbl hd hf => stp_load_bx ld_int rfl (hd 0 18 rfl rfl) (hst.get 0 rfl) (i := 0) rfl rfl ⟨Below.refl _ _, rfl⟩), (fun f W hst hbl hd hf => stp_call1 Tryd.func37 rfl (hd 1 19 rfl rfl) ((DeedWordI W d.kind (by omega)).mono (by rintro e W2 ⟨rfl, hk⟩; exact ⟨_, rfl, hk.below, rfl⟩))), (fun f W hst hbl hd hf => stp_fieldAddr fa_Deed_1 ((hf 1 rfl).trans (show _ = (.pointer (some ⟨b1, 0, none⟩) : Value) from rfl)) ⟨Below.refl _ _, rfl⟩), (fun f W hst hbl hd hf => stp_load_bx ld_int rfl (hd 3 21 rfl rfl) (hst.get 0 rfl) (i := 1) rfl rfl ⟨Below.refl _ _, rfl⟩), (fun f W hst hbl hd hf => stp_fieldAddr fa_Deed_2 ((hf 1 rfl).trans (show _ = (.pointer (some ⟨b1, 0, none⟩) : Value) from rfl)) ⟨Below.refl _ _, rfl⟩), (fun f W hst hbl hd hf => stp_fieldAddr fa_Plan_0 (hd 5 23 rfl rfl) ⟨Below.refl _ _, rfl⟩), (fun f W hst hbl hd hf => stp_load_bx ld_int rfl (hd 6 24 rfl rfl) (hst.get 0 rfl) (i := 2) rfl rfl ⟨Below.refl _ _, rfl⟩), (fun f W hst hbl hd hf => stp_fieldAddr fa_Deed_2 ((hf 1 rfl).trans (show _ = (.pointer (some ⟨b1, 0, none⟩) : Value) from rfl)) ⟨Below.refl _ _, rfl⟩), (fun f W hst hbl hd hf => stp_fieldAddr fa_Plan_1 (hd 8 26 rfl rfl) ⟨Below.refl _ _, rfl⟩), (fun f W hst hbl hd hf => stp_load_bx ld_int rfl (hd 9 27 rfl rfl) (hst.get 0 rfl) (i := 3) rfl rfl ⟨Below.refl _ _, rfl⟩), (fun f W hst hbl hd hf => stp_fieldAddr fa_Deed_2 ((hf 1 rfl).trans (show _ = (.pointer (some ⟨b1, 0, none⟩) : Value) from rfl)) ⟨Below.refl _ _, rfl⟩), (fun f W hst hbl hd hf => stp_fieldAddr fa_Plan_2 (hd 11 29 rfl rfl) ⟨Below.refl _ _, rfl⟩), (fun f W hst hbl hd hf => stp_load_bx ld_int rfl (hd 12 30 rfl rfl) (hst.get 0 rfl) (i := 4) rfl rfl ⟨Below.refl _ _, rfl⟩), (fun f W hst hbl hd hf => stp_fieldAddr fa_Deed_2 ((hf 1 rfl).trans (show _ = (.pointer (some ⟨b1, 0, none⟩) : Value) from rfl)) ⟨Below.refl _ _, rfl⟩), (fun f W hst hbl hd hf => stp_fieldAddr fa_Plan_3 (hd 14 32 rfl rfl) ⟨Below.refl _ _, rfl⟩), (fun f W hst hbl hd hf => stp_load_bx ld_int rfl (hd 15 33 rfl rfl) (hst.get 0 rfl) (i := 5) rfl rfl ⟨Below.refl _ _, rfl⟩), (fun f W hst hbl hd hf => stp_blk (cs := [I d.run, I d.plan.prio, I d.plan.most, I d.plan.wait, I d.plan.tasks]) (e := 3) (pcons (v := I d.run) (hd 4 22 rfl rfl) (pcons (v := I d.plan.prio) (hd 7 25 rfl rfl) (pcons (v := I d.plan.most) (hd 10 28 rfl rfl) (pcons (v := I d.plan.wait) (hd 13 31 rfl rfl) (pcons (v := I d.plan.tasks) (hd 16 34 rfl rfl) pnil))))) (run_buildSliceN ap_IntS _ rfl (lc_cons rfl (lc_cons rfl (lc_cons rfl (lc_cons rfl (lc_cons rfl lc_nil)))))) hbl), (fun f W hst hbl hd hf => by obtain ⟨b24, e24, hh24, hn24⟩ := hd 17 35 rfl rfl; exact stp_call2 Tryd.func25 rfl (hd 2 20 rfl rfl) e24 ((SaidI W (deedW d.kind) (blk_Sl (ys := [d.run, d.plan.prio, d.plan.most, d.plan.wait, d.plan.tasks]) (by simp) (Elems.ic (by simp only [I64]; omega) (Elems.ic (by simp only [I64]; omega) (Elems.ic (by simp only [I64]; omega) (Elems.ic (by simp only [I64]; omega) (Elems.ic (by simp only [I64]; omega) Elems.i0))))) hh24) (by have hws := deedW_size d.kind; (try simp only [List.length_cons, List.length_nil]); omega) (TabIs.below htab hst.below)).mono (by rintro e W2 ⟨rfl, hk⟩; exact ⟨_, rfl, hk.below, rfl⟩))), (fun f W hst hbl hd hf => stp_assign (v := .string (saidB (deedW d.kind) ([d.run, d.plan.prio, d.plan.most, d.plan.wait, d.plan.tasks]))) (hd 18 36 rfl rfl) ⟨Below.refl _ _, rfl⟩), trivial⟩ ?_
      intro f25 W26 st27 hb28 hv29 hf30
      have hq_ := hv29 17 35 (by decide) rfl
      obtain ⟨b31, hv32, hh32, hn32⟩ := hq_
      have st33 := St.add st8 st27 hh32 hn32
      refine wp_seq ?_
      refine wp_seq ?_
      refine sx_region ?_
      refine sx rfl (stp_fieldAddr fa_Deed_2 ((hf30 1 rfl).trans (show _ = (.pointer (some ⟨b1, 0, none⟩) : Value) from rfl)) ?_)
      refine sx rfl (stp_fieldAddr fa_Plan_4 rfl ?_)
      refine sx rfl (stp_load_bx ld_EdgeS rfl rfl (st33.get 1 rfl) (i := 6) rfl rfl ?_)
      refine sx rfl (stp_len sl_EdgeS rfl h11_0 ?_)
      refine sx rfl (stp_move (v := I 0) rfl ?_)
      refine sx_nil ?_
      refine wp_block ?_
      refine sx_loop (fun (m : Nat) (f : Nat → Value) (W : World) => ∃ (k : Nat), k ≤ d.plan.edges.length ∧ m = d.plan.edges.length - k ∧ f 3 = .string (edgesB (saidB (deedW d.kind) [d.run, d.plan.prio, d.plan.most, d.plan.wait, d.plan.tasks]) (d.plan.edges.take k)) ∧ f 39 = v11_0 ∧ f 40 = I (d.plan.edges.length : Int) ∧ f 41 = I (k : Int) ∧ St w W ([Res.bx b31 [I d.run, I d.plan.prio, I d.plan.most, I d.plan.wait, I d.plan.tasks] 3, Res.bx b1 [I d.kind, I d.run, I d.plan.prio, I d.plan.most, I d.plan.wait, I d.plan.tasks, v11_0, I d.task, I d.try_, I d.worker, I d.draw] 50])) (d.plan.edges.length - 0) ?_ ?_
      · exact ⟨0, (by omega), rfl, (Eq.trans (show _ = (.string (saidB (deedW d.kind) ([d.run, d.plan.prio, d.plan.most, d.plan.wait, d.plan.tasks])) : Value) from (hv29 19 3 (by decide) rfl)) (congrArg Value.string rfl)), rfl, rfl, rfl, st33⟩
      intro m35 f36 W37 hJ38
      obtain ⟨k, hk, rfl, hs40_3, hs40_39, hs40_40, hs40_41, st39⟩ := hJ38
      have hes := edgesB_size (s := (saidB (deedW d.kind) [d.run, d.plan.prio, d.plan.most, d.plan.wait, d.plan.tasks])) (es := d.plan.edges.take k) (fun e he => hed e (List.mem_of_mem_take he))
      have hws := deedW_size d.kind
      have htl := List.length_take_le k d.plan.edges
      have hss := saidB_size (word := deedW d.kind) (l := [d.run, d.plan.prio, d.plan.most, d.plan.wait, d.plan.tasks]) (by intro n hn; simp only [List.mem_cons, List.not_mem_nil, or_false] at hn; simp only [I64]; omega)
      simp only [List.length_cons, List.length_nil] at hss
      refine wp_seq ?_
      refine sx_region ?_
      refine sx rfl (stp_lss hs40_41 hs40_40 ?_)
      refine sx_nil ?_
      refine wp_seq ?_
      refine sx_if rfl (fun h41 => ?_) (fun h41 => ?_)
      · skip
        have h41p := of_decide_eq_true h41
        refine wp_skip ?_
        refine wp_seq ?_
        refine wp_block ?_
        refine wp_seq ?_
        refine sx_region ?_
        have hi86a04 : k < d.plan.edges.length := (by omega)
        have hq_ := idx h11_0 (i := k) hi86a04
        obtain ⟨b42, o42, cs42, f42, hp42, hr42, hc42, hm42⟩ := hq_
        refine sx rfl (stp_indexAddr sl_EdgeS hs40_39 hp42 hs40_41 rfl ?_)
        refine sx rfl (stp_load_rga ld_Edge rfl rfl hr42 st39.below (Shape.len hc42) ?_)
        refine sx rfl (stp_alloc zz_Edge st39 ?_); intro b43 W44 hb45 st46
        refine sx rfl (stp_store_all (cs := cs42) ld_Edge hc42 rfl rfl st46 rfl ?_); intro W48 st49
        refine sx_nil ?_
        have hk50 := hc42
        obtain ⟨he50, rfl, hok50⟩ := hk50
        have he50 : _ = [I (d.plan.edges[k]'hi86a04).from_, I (d.plan.edges[k]'hi86a04).to_] := he50
        subst he50
        have hek := hed _ (List.getElem_mem (l := d.plan.edges) (n := k) (by omega))
        simp only [Edge.ok, I64] at hek
        have hz1 := itoaB_size (z := (d.plan.edges[k]'(by omega)).from_) (by omega)
        have hz2 := itoaB_size (z := (d.plan.edges[k]'(by omega)).to_) (by omega)
        refine sx_any [Pl.is (.string (edgesB (saidB (deedW d.kind) [d.run, d.plan.prio, d.plan.most, d.plan.wait, d.plan.tasks]) (d.plan.edges.take k))), Pl.is (.pointer (some ⟨b43, 0 + 0, none⟩)), Pl.is (I (d.plan.edges[k]'hi86a04).from_), Pl.is (.string (itoaB (d.plan.edges[k]'hi86a04).from_)), Pl.is (.string ((⟨#[32]⟩ : ByteArray) ++ (itoaB (d.plan.edges[k]'hi86a04).from_))), Pl.is (.string (((⟨#[32]⟩ : ByteArray) ++ (itoaB (d.plan.edges[k]'hi86a04).from_)) ++ (⟨#[62]⟩ : ByteArray))), Pl.is (.pointer (some ⟨b43, 0 + 1, none⟩)), Pl.is (I (d.plan.edges[k]'hi86a04).to_), Pl.is (.string (itoaB (d.plan.edges[k]'hi86a04).to_)), Pl.is (.string ((((⟨#[32]⟩ : ByteArray) ++ (itoaB (d.plan.edges[k]'hi86a04).from_)) ++ (⟨#[62]⟩ : ByteArray)) ++ (itoaB (d.plan.edges[k]'hi86a04).to_))), Pl.is (.string ((edgesB (saidB (deedW d.kind) [d.run, d.plan.prio, d.plan.most, d.plan.wait, d.plan.tasks]) (d.plan.edges.take k)) ++ ((((⟨#[32]⟩ : ByteArray) ++ (itoaB (d.plan.edges[k]'hi86a04).from_)) ++ (⟨#[62]⟩ : ByteArray)) ++ (itoaB (d.plan.edges[k]'hi86a04).to_)))), Pl.is (.string ((edgesB (saidB (deedW d.kind) [d.run, d.plan.prio, d.plan.most, d.plan.wait, d.plan.tasks]) (d.plan.edges.take k)) ++ ((((⟨#[32]⟩ : ByteArray) ++ (itoaB (d.plan.edges[k]'hi86a04).from_)) ++ (⟨#[62]⟩ : ByteArray)) ++ (itoaB (d.plan.edges[k]'hi86a04).to_))))] mix (by rfl) st49 ⟨(fun f W hst hbl hd hf => stp_move (v := .string (edgesB (saidB (deedW d.kind) [d.run, d.plan.prio, d.plan.most, d.plan.wait, d.plan.tasks]) (d.plan.edges.take k))) ((hf 3 rfl).trans hs40_3) ⟨Below.refl _ _, rfl⟩), (fun f W hst hbl hd hf => stp_fieldAddr fa_Edge_0 ((hf 5 rfl).trans (show _ = (.pointer (some ⟨b43, 0, none⟩) : Value) from rfl)) ⟨Below.refl _ _, rfl⟩), (fun f W hst hbl hd hf => stp_load_bx ld_int rfl (hd 1 46 rfl rfl) (hst.get 0 rfl) (i := 0) rfl rfl ⟨Below.refl _ _, rfl⟩), (fun f W hst hbl hd hf => stp_call1 Tryd.func31 rfl (hd 2 47 rfl rfl) ((DecimalI W (d.plan.edges[k]'hi86a04).from_ (by omega) (TabIs.below htab hst.below)).mono (by rintro e W2 ⟨rfl, hk⟩; exact ⟨_, rfl, hk.below, rfl⟩))), (fun f W hst hbl hd hf => stp_sadd rfl (hd 3 48 rfl rfl) (by simp only [ByteArray.size_append, bsz, List.size_toArray, List.length_cons, List.length_nil]; omega) ⟨Below.refl _ _, rfl⟩), (fun f W hst hbl hd hf => stp_sadd (hd 4 49 rfl rfl) rfl (by simp only [ByteArray.size_append, bsz, List.size_toArray, List.length_cons, List.length_nil]; omega) ⟨Below.refl _ _, rfl⟩), (fun f W hst hbl hd hf => stp_fieldAddr fa_Edge_1 ((hf 5 rfl).trans (show _ = (.pointer (some ⟨b43, 0, none⟩) : Value) from rfl)) ⟨Below.refl _ _, rfl⟩), (fun f W hst hbl hd hf => stp_load_bx ld_int rfl (hd 6 51 rfl rfl) (hst.get 0 rfl) (i := 1) rfl rfl ⟨Below.refl _ _, rfl⟩), (fun f W hst hbl hd hf => stp_call1 Tryd.func31 rfl (hd 7 52 rfl rfl) ((DecimalI W (d.plan.edges[k]'hi86a04).to_ (by omega) (TabIs.below htab hst.below)).mono (by rintro e W2 ⟨rfl, hk⟩; exact ⟨_, rfl, hk.below, rfl⟩))), (fun f W hst hbl hd hf => stp_sadd (hd 5 50 rfl rfl) (hd 8 53 rfl rfl) (by simp only [ByteArray.size_append, bsz, List.size_toArray, List.length_cons, List.length_nil]; omega) ⟨Below.refl _ _, rfl⟩), (fun f W hst hbl hd hf => stp_sadd (hd 0 45 rfl rfl) (hd 9 54 rfl rfl) (by simp only [ByteArray.size_append, bsz, List.size_toArray, List.length_cons, List.length_nil]; omega) ⟨Below.refl _ _, rfl⟩), (fun f W hst hbl hd hf => stp_assign (v := .string ((edgesB (saidB (deedW d.kind) [d.run, d.plan.prio, d.plan.most, d.plan.wait, d.plan.tasks]) (d.plan.edges.take k)) ++ ((((⟨#[32]⟩ : ByteArray) ++ (itoaB (d.plan.edges[k]'hi86a04).from_)) ++ (⟨#[62]⟩ : ByteArray)) ++ (itoaB (d.plan.edges[k]'hi86a04).to_)))) (hd 10 55 rfl rfl) ⟨Below.refl _ _, rfl⟩), trivial⟩ ?_
        intro f51 W52 st53 hb54 hv55 hf56
        refine sx_region ?_
        refine sx rfl (stp_add ((hf56 41 rfl).trans hs40_41) rfl (by (simp only [I64] at *; omega)) ?_)
        refine sx rfl (stp_move (v := I ((k : Int) + 1)) rfl ?_)
        refine sx_nil ?_
        have st57 := st53.f2
        have st58 := st57.f2
        have st59 := st58.d2
        exact ⟨_, d.plan.edges.length - (k + 1), (by omega), rfl, k + 1, (by omega), rfl, (Eq.trans (show _ = (.string ((edgesB (saidB (deedW d.kind) [d.run, d.plan.prio, d.plan.most, d.plan.wait, d.plan.tasks]) (d.plan.edges.take k)) ++ ((((⟨#[32]⟩ : ByteArray) ++ (itoaB (d.plan.edges[k]'hi86a04).from_)) ++ (⟨#[62]⟩ : ByteArray)) ++ (itoaB (d.plan.edges[k]'hi86a04).to_))) : Value) from (hv55 11 3 (by decide) rfl)) (congrArg Value.string (edgesB_step (by omega)).symm)), ((hf56 39 rfl).trans hs40_39), ((hf56 40 rfl).trans hs40_40), rfl, st59⟩
      · skip
        have h41p := of_decide_eq_false h41
        refine wp_exit ?_
        refine wp_seq ?_
        refine sx_region ?_
        refine sx rfl (stp_move (v := .string (edgesB (saidB (deedW d.kind) [d.run, d.plan.prio, d.plan.most, d.plan.wait, d.plan.tasks]) (d.plan.edges.take k))) hs40_3 ?_)
        refine sx rfl (stp_assign (v := .string (edgesB (saidB (deedW d.kind) [d.run, d.plan.prio, d.plan.most, d.plan.wait, d.plan.tasks]) (d.plan.edges.take k))) rfl ?_)
        refine sx_nil ?_
        refine wp_ret ?_; repeat (first | refine then_ret ?_ | refine blk_ret ?_)
        refine ret1 Tryd.results18 rfl ?_
        obtain rfl : k = d.plan.edges.length := by omega
        exact ⟨(congrArg (fun z => Ending.returned (.string z)) (by unfold deedLine lineNums; rw [(bnot_f h10), if_pos rfl, if_pos (by omega), List.take_length])), st39.bare⟩
set_option maxHeartbeats 2000000 in
theorem DeedLineS (w : World) {d : Deed} {cs : List Value} {fp : List Nat} (hc : Shape.C w cs d fp) :
    Calls Tryd.prog 16 #[.agg cs.toArray] w fun e w' => e = .returned (.string (deedLine d)) ∧ St w w' [] := by
  have hed : ∀ e ∈ d.plan.edges, e.ok := by have h0 := hc; obtain ⟨v1, f1, h0, hok, h1, hfp⟩ := h0; exact Sl_edges h1
  have hd64 : d.ok := by have h0 := hc; obtain ⟨v1, f1, h0, hok, h1, hfp⟩ := h0; exact hok
  simp only [Deed.ok, Plan.ok, I64] at hd64
  refine enter1 Tryd.func16 rfl Tryd.ntmps16 (by decide) ?_
  refine wp_seq ?_
  refine sx_region ?_
  refine sx rfl (stp_box_agg (cs := cs) rfl (St.start w) ?_); intro b1 W2 hb3 st4
  refine sx rfl (stp_assign (v := .string (⟨#[]⟩ : ByteArray)) rfl ?_)
  refine sx_nil ?_
  refine wp_seq ?_
  refine wp_seq ?_
  refine sx_region ?_
  refine sx rfl (stp_load_bxa ld_Deed rfl rfl (st4.get 0 rfl) (Shape.len hc) ?_)
  refine sx rfl (stp_call1 Tryd.func35 rfl rfl ((DeedOkS W2 (C_below hc st4.below)).mono ?_)); rintro _ W6 ⟨rfl, hk7⟩; refine ⟨_, rfl, ?_⟩
  have st8 := St.call st4 hk7
  refine sx rfl (stp_not rfl ?_)
  refine sx_nil ?_
  refine sx_if rfl (fun h10 => ?_) (fun h10 => ?_)
  · skip
    refine wp_seq ?_
    refine sx_region ?_
    refine sx rfl (stp_assign (v := .string (⟨#[]⟩ : ByteArray)) rfl ?_)
    refine sx_nil ?_
    refine wp_ret ?_; repeat (first | refine then_ret ?_ | refine blk_ret ?_)
    refine ret1 Tryd.results16 rfl ?_
    exact ⟨(congrArg (fun z => Ending.returned (.string z)) (by unfold deedLine; rw [(bnot_t h10)]; rfl)), st8.bare⟩
  · skip
    refine wp_skip ?_
    refine wp_seq ?_
    refine sx_region ?_
    have hdf := deedOk_facts (bnot_f h10)
    have h64 : ∀ n ∈ lineNums d, I64 n := lineNums_64 hd64 hdf
    have hdn := lineNums_len d
    refine sx rfl (stp_buildSlice (cs := []) (e := 3) pnil (run_buildSlice0 ap_IntS _) st8 ?_); intro b11 W12 hb13 st14
    have st14 := st14.row_empty (α := Int)
    refine sx rfl (stp_assign (v := (.slice (some ⟨b11, 0, none⟩) 0 0)) rfl ?_)
    refine sx_nil ?_
    refine wp_seq ?_
    refine sx_region ?_
    refine sx rfl (stp_buildSlice (cs := [.string (⟨#[]⟩ : ByteArray), .string (⟨#[115, 117, 98, 109, 105, 116]⟩ : ByteArray), .string (⟨#[112, 111, 108, 108]⟩ : ByteArray), .string (⟨#[100, 111, 110, 101]⟩ : ByteArray), .string (⟨#[102, 97, 105, 108]⟩ : ByteArray), .string (⟨#[116, 105, 99, 107]⟩ : ByteArray), .string (⟨#[99, 97, 110, 99, 101, 108]⟩ : ByteArray), .string (⟨#[102, 111, 114, 103, 101, 116]⟩ : ByteArray), .string (⟨#[115, 116, 97, 114, 116]⟩ : ByteArray)]) (e := 9) (pcons (v := .string (⟨#[]⟩ : ByteArray)) rfl (pcons (v := .string (⟨#[115, 117, 98, 109, 105, 116]⟩ : ByteArray)) rfl (pcons (v := .string (⟨#[112, 111, 108, 108]⟩ : ByteArray)) rfl (pcons (v := .string (⟨#[100, 111, 110, 101]⟩ : ByteArray)) rfl (pcons (v := .string (⟨#[102, 97, 105, 108]⟩ : ByteArray)) rfl (pcons (v := .string (⟨#[116, 105, 99, 107]⟩ : ByteArray)) rfl (pcons (v := .string (⟨#[99, 97, 110, 99, 101, 108]⟩ : ByteArray)) rfl (pcons (v := .string (⟨#[102, 111, 114, 103, 101, 116]⟩ : ByteArray)) rfl (pcons (v := .string (⟨#[115, 116, 97, 114, 116]⟩ : ByteArray)) rfl pnil))))))))) (run_buildSliceN ap_StringS _ rfl (lc_cons rfl (lc_cons rfl (lc_cons rfl (lc_cons rfl (lc_cons rfl (lc_cons rfl (lc_cons rfl (lc_cons rfl (lc_cons rfl lc_nil)))))))))) st14 ?_); intro b16 W17 hb18 st19
    refine sx rfl (stp_fieldAddr fa_Deed_0 rfl ?_)
    have hk21 := hc
    obtain ⟨v21_0, g21_0, rfl, hok21, h21_0, rfl⟩ := hk21
    refine sx rfl (stp_load_bx ld_int rfl rfl (st19.get 2 rfl) (i := 0) rfl rfl ?_)
    have st22 := St.row_lit (α := ByteArray) (ys := [(⟨#[]⟩ : ByteArray), (⟨#[115, 117, 98, 109, 105, 116]⟩ : ByteArray), (⟨#[112, 111, 108, 108]⟩ : ByteArray), (⟨#[100, 111, 110, 101]⟩ : ByteArray), (⟨#[102, 97, 105, 108]⟩ : ByteArray), (⟨#[116, 105, 99, 107]⟩ : ByteArray), (⟨#[99, 97, 110, 99, 101, 108]⟩ : ByteArray), (⟨#[102, 111, 114, 103, 101, 116]⟩ : ByteArray), (⟨#[115, 116, 97, 114, 116]⟩ : ByteArray)]) st19 rfl (Nat.le_of_ble_eq_true rfl) (Elems.sc (by simp only [bsz, List.size_toArray, List.length_cons, List.length_nil, maxLen]; omega) (Elems.sc (by simp only [bsz, List.size_toArray, List.length_cons, List.length_nil, maxLen]; omega) (Elems.sc (by simp only [bsz, List.size_toArray, List.length_cons, List.length_nil, maxLen]; omega) (Elems.sc (by simp only [bsz, List.size_toArray, List.length_cons, List.length_nil, maxLen]; omega) (Elems.sc (by simp only [bsz, List.size_toArray, List.length_cons, List.length_nil, maxLen]; omega) (Elems.sc (by simp only [bsz, List.size_toArray, List.length_cons, List.length_nil, maxLen]; omega) (Elems.sc (by simp only [bsz, List.size_toArray, List.length_cons, List.length_nil, maxLen]; omega) (Elems.sc (by simp only [bsz, List.size_toArray, List.length_cons, List.length_nil, maxLen]; omega) (Elems.sc (by simp only [bsz, List.size_toArray, List.length_cons, List.length_nil, maxLen]; omega) Elems.s0)))))))))
    have hic1759 : (d.kind).toNat < ([(⟨#[]⟩ : ByteArray), (⟨#[115, 117, 98, 109, 105, 116]⟩ : ByteArray), (⟨#[112, 111, 108, 108]⟩ : ByteArray), (⟨#[100, 111, 110, 101]⟩ : ByteArray), (⟨#[102, 97, 105, 108]⟩ : ByteArray), (⟨#[116, 105, 99, 107]⟩ : ByteArray), (⟨#[99, 97, 110, 99, 101, 108]⟩ : ByteArray), (⟨#[102, 111, 114, 103, 101, 116]⟩ : ByteArray), (⟨#[115, 116, 97, 114, 116]⟩ : ByteArray)]).length := (by simp only [List.length_cons, List.length_nil]; omega)
    have hq_ := idx (row_Sl (st22.get 0 rfl)) (i := (d.kind).toNat) hic1759
    obtain ⟨b23, o23, cs23, f23, hp23, hr23, hc23, hm23⟩ := hq_
    have hk23 := hc23
    obtain ⟨rfl, rfl, hok23⟩ := hk23
    refine sx rfl (stp_indexAddr sl_StringS rfl hp23 rfl (by omega) ?_)
    refine sx rfl (stp_load_rg ld_string rfl rfl hr23 (Below.refl _ _) (i := 0) rfl rfl ?_)
    refine sx rfl (stp_assign (v := .string (([(⟨#[]⟩ : ByteArray), (⟨#[115, 117, 98, 109, 105, 116]⟩ : ByteArray), (⟨#[112, 111, 108, 108]⟩ : ByteArray), (⟨#[100, 111, 110, 101]⟩ : ByteArray), (⟨#[102, 97, 105, 108]⟩ : ByteArray), (⟨#[116, 105, 99, 107]⟩ : ByteArray), (⟨#[99, 97, 110, 99, 101, 108]⟩ : ByteArray), (⟨#[102, 111, 114, 103, 101, 116]⟩ : ByteArray), (⟨#[115, 116, 97, 114, 116]⟩ : ByteArray)])[(d.kind).toNat]'hic1759)) rfl ?_)
    refine sx_nil ?_
    refine wp_seq ?_
    refine wp_seq ?_
    refine sx_region ?_
    refine sx rfl (stp_fieldAddr fa_Deed_0 rfl ?_)
    refine sx rfl (stp_load_bx ld_int rfl rfl (st22.get 2 rfl) (i := 0) rfl rfl ?_)
    refine sx_nil ?_
    refine wp_block ?_
    refine wp_seq ?_
    refine sx_region ?_
    refine sx rfl (stp_eql rfl rfl ?_)
    refine sx rfl (stp_assign (v := .bool (decide (d.kind = 1))) rfl ?_)
    refine sx_nil ?_
    refine sx_if rfl (fun h24 => ?_) (fun h24 => ?_)
    · skip
      have h24p := of_decide_eq_true h24
      refine sx_region ?_
      refine sx rfl (stp_move (v := (.slice (some ⟨b11, 0, none⟩) 0 0)) rfl ?_)
      refine sx rfl (stp_fieldAddr fa_Deed_1 rfl ?_)
      refine sx rfl (stp_load_bx ld_int rfl rfl (st22.get 2 rfl) (i := 1) rfl rfl ?_)
      refine sx rfl (stp_fieldAddr fa_Deed_2 rfl ?_)
      refine sx rfl (stp_fieldAddr fa_Plan_0 rfl ?_)
      refine sx rfl (stp_load_bx ld_int rfl rfl (st22.get 2 rfl) (i := 2) rfl rfl ?_)
      refine sx rfl (stp_fieldAddr fa_Deed_2 rfl ?_)
      refine sx rfl (stp_fieldAddr fa_Plan_1 rfl ?_)
      refine sx rfl (stp_load_bx ld_int rfl rfl (st22.get 2 rfl) (i := 3) rfl rfl ?_)
      refine sx rfl (stp_fieldAddr fa_Deed_2 rfl ?_)
      refine sx rfl (stp_fieldAddr fa_Plan_2 rfl ?_)
      refine sx rfl (stp_load_bx ld_int rfl rfl (st22.get 2 rfl) (i := 4) rfl rfl ?_)
      refine sx rfl (stp_fieldAddr fa_Deed_2 rfl ?_)
      refine sx rfl (stp_fieldAddr fa_Plan_3 rfl ?_)
      refine sx rfl (stp_load_bx ld_int rfl rfl (st22.get 2 rfl) (i := 5) rfl rfl ?_)
      refine sx rfl (stp_buildSlice (cs := [I d.run, I d.plan.prio, I d.plan.most, I d.plan.wait, I d.plan.tasks]) (e := 3) (pcons (v := I d.run) rfl (pcons (v := I d.plan.prio) rfl (pcons (v := I d.plan.most) rfl (pcons (v := I d.plan.wait) rfl (pcons (v := I d.plan.tasks) rfl pnil))))) (run_buildSliceN ap_IntS _ rfl (lc_cons rfl (lc_cons rfl (lc_cons rfl (lc_cons rfl (lc_cons rfl lc_nil)))))) st22 ?_); intro b25 W26 hb27 st28
      have st30 := st28.f2
      refine sx rfl (stp_append_bx (ys := [d.run, d.plan.prio, d.plan.most, d.plan.wait, d.plan.tasks]) ap_IntS rfl rfl rfl st30 (Elems.ic (by simp only [I64]; omega) (Elems.ic (by simp only [I64]; omega) (Elems.ic (by simp only [I64]; omega) (Elems.ic (by simp only [I64]; omega) (Elems.ic (by simp only [I64]; omega) Elems.i0))))) (by simp only [List.length_nil, List.length_cons, maxLen]; omega) (by simp only [List.length_nil, List.length_cons]; omega) ?_); intro v31 W32 st33
      refine sx rfl (stp_assign (v := v31) rfl ?_)
      refine sx_nil ?_
      refine wp_seq ?_
      refine sx_region ?_
      have hlist : [] ++ [d.run, d.plan.prio, d.plan.most, d.plan.wait, d.plan.tasks] = (lineNums d) := by unfold lineNums deedNums; first | rw [if_pos (by omega)]; rfl | (rw [if_neg (by omega), if_neg (by omega)]; first | (rw [if_pos (by omega)]; rfl) | (rw [if_neg (by omega), if_pos (by omega)]; rfl) | (rw [if_neg (by omega), if_neg (by omega), if_pos (by omega)]; rfl) | (rw [if_neg (by omega), if_neg (by omega), if_neg (by omega)]))
      have st34 := st33; rw [hlist] at st34
      skip
      refine sx rfl (stp_move (v := .string (([(⟨#[]⟩ : ByteArray), (⟨#[115, 117, 98, 109, 105, 116]⟩ : ByteArray), (⟨#[112, 111, 108, 108]⟩ : ByteArray), (⟨#[100, 111, 110, 101]⟩ : ByteArray), (⟨#[102, 97, 105, 108]⟩ : ByteArray), (⟨#[116, 105, 99, 107]⟩ : ByteArray), (⟨#[99, 97, 110, 99, 101, 108]⟩ : ByteArray), (⟨#[102, 111, 114, 103, 101, 116]⟩ : ByteArray), (⟨#[115, 116, 97, 114, 116]⟩ : ByteArray)])[(d.kind).toNat]'hic1759)) rfl ?_)
      refine sx rfl (stp_assign (v := .string (([(⟨#[]⟩ : ByteArray), (⟨#[115, 117, 98, 109, 105, 116]⟩ : ByteArray), (⟨#[112, 111, 108, 108]⟩ : ByteArray), (⟨#[100, 111, 110, 101]⟩ : ByteArray), (⟨#[102, 97, 105, 108]⟩ : ByteArray), (⟨#[116, 105, 99, 107]⟩ : ByteArray), (⟨#[99, 97, 110, 99, 101, 108]⟩ : ByteArray), (⟨#[102, 111, 114, 103, 101, 116]⟩ : ByteArray), (⟨#[115, 116, 97, 114, 116]⟩ : ByteArray)])[(d.kind).toNat]'hic1759)) rfl ?_)
      refine sx_nil ?_
      refine wp_seq ?_
      refine wp_seq ?_
      refine sx_region ?_
      refine sx rfl (stp_assign (v := I 0) rfl ?_)
      refine sx_nil ?_
      refine wp_block ?_
      refine sx_loop (fun (m : Nat) (f : Nat → Value) (W : World) => ∃ (i : Nat), i ≤ (lineNums d).length ∧ m = (lineNums d).length - i ∧ f 1 = .pointer (some ⟨b1, 0, none⟩) ∧ f 3 = v31 ∧ f 5 = .string (saidB (deedW d.kind) ((lineNums d).take i)) ∧ f 6 = I (i : Int) ∧ St w W ([Res.row (α := Int) 3 v31 (lineNums d) [], Res.row (α := ByteArray) 9 (.slice (some ⟨b16, 0, none⟩) 9 9) ([(⟨#[]⟩ : ByteArray), (⟨#[115, 117, 98, 109, 105, 116]⟩ : ByteArray), (⟨#[112, 111, 108, 108]⟩ : ByteArray), (⟨#[100, 111, 110, 101]⟩ : ByteArray), (⟨#[102, 97, 105, 108]⟩ : ByteArray), (⟨#[116, 105, 99, 107]⟩ : ByteArray), (⟨#[99, 97, 110, 99, 101, 108]⟩ : ByteArray), (⟨#[102, 111, 114, 103, 101, 116]⟩ : ByteArray), (⟨#[115, 116, 97, 114, 116]⟩ : ByteArray)]) [], Res.bx b1 [I d.kind, I d.run, I d.plan.prio, I d.plan.most, I d.plan.wait, I d.plan.tasks, v21_0, I d.task, I d.try_, I d.worker, I d.draw] 50])) ((lineNums d).length - 0) ?_ ?_
      · exact ⟨0, (by omega), rfl, rfl, rfl, (Eq.trans (show _ = (.string (([(⟨#[]⟩ : ByteArray), (⟨#[115, 117, 98, 109, 105, 116]⟩ : ByteArray), (⟨#[112, 111, 108, 108]⟩ : ByteArray), (⟨#[100, 111, 110, 101]⟩ : ByteArray), (⟨#[102, 97, 105, 108]⟩ : ByteArray), (⟨#[116, 105, 99, 107]⟩ : ByteArray), (⟨#[99, 97, 110, 99, 101, 108]⟩ : ByteArray), (⟨#[102, 111, 114, 103, 101, 116]⟩ : ByteArray), (⟨#[115, 116, 97, 114, 116]⟩ : ByteArray)])[(d.kind).toNat]'hic1759) : Value) from rfl) (congrArg Value.string (deedW_S (by omega) _))), rfl, st34⟩
      intro m35 f36 W37 hJ38
      obtain ⟨i, hi, rfl, hs40_1, hs40_3, hs40_5, hs40_6, st39⟩ := hJ38
      have hss := saidB_size (word := deedW d.kind) (l := (lineNums d).take i) (fun n hn => h64 n (List.mem_of_mem_take hn))
      have htl := List.length_take_le i (lineNums d)
      have hws := deedW_size d.kind
      refine wp_seq ?_
      refine wp_seq ?_
      refine sx_region ?_
      refine sx rfl (stp_move (v := I (i : Int)) hs40_6 ?_)
      refine sx rfl (stp_move (v := v31) hs40_3 ?_)
      refine sx rfl (stp_len sl_IntS rfl (row_Sl (st39.get 0 rfl)) ?_)
      refine sx rfl (stp_lss rfl rfl ?_)
      refine sx_nil ?_
      refine sx_if rfl (fun h41 => ?_) (fun h41 => ?_)
      · skip
        have h41p := of_decide_eq_true h41
        refine wp_skip ?_
        refine wp_seq ?_
        refine wp_block ?_
        refine sx_region ?_
        refine sx rfl (stp_move (v := .string (saidB (deedW d.kind) ((lineNums d).take i))) hs40_5 ?_)
        refine sx rfl (stp_sadd rfl rfl (by simp only [ByteArray.size_append, bsz, List.size_toArray, List.length_cons, List.length_nil]; omega) ?_)
        refine sx rfl (stp_move (v := v31) hs40_3 ?_)
        refine sx rfl (stp_move (v := I (i : Int)) hs40_6 ?_)
        have hi01093 : i < (lineNums d).length := (by omega)
        have hq_ := idx (row_Sl (st39.get 0 rfl)) (i := i) hi01093
        obtain ⟨b42, o42, cs42, f42, hp42, hr42, hc42, hm42⟩ := hq_
        have hk42 := hc42
        obtain ⟨rfl, rfl, hok42⟩ := hk42
        refine sx rfl (stp_indexAddr sl_IntS rfl hp42 rfl rfl ?_)
        have hik := h64 _ (List.getElem_mem (l := lineNums d) (n := i) (by omega))
        simp only [I64] at hik
        have hiz := itoaB_size (z := ((lineNums d)[i]'(by omega))) (by omega)
        refine sx rfl (stp_load_rg ld_int rfl rfl hr42 (Below.refl _ _) (i := 0) rfl rfl ?_)
        refine sx rfl (stp_call1 Tryd.func24 rfl rfl ((DecimalS W37 ((lineNums d)[i]'hi01093) (by omega)).mono ?_)); rintro _ W43 ⟨rfl, hk44⟩; refine ⟨_, rfl, ?_⟩
        have st45 := St.call st39 hk44
        refine sx rfl (stp_sadd rfl rfl (by simp only [ByteArray.size_append, bsz, List.size_toArray, List.length_cons, List.length_nil]; omega) ?_)
        refine sx rfl (stp_assign (v := .string (((saidB (deedW d.kind) ((lineNums d).take i)) ++ (⟨#[32]⟩ : ByteArray)) ++ (itoaB ((lineNums d)[i]'hi01093)))) rfl ?_)
        refine sx_nil ?_
        refine sx_region ?_
        refine sx rfl (stp_move (v := I (i : Int)) hs40_6 ?_)
        refine sx rfl (stp_add rfl rfl (by (simp only [I64] at *; omega)) ?_)
        refine sx rfl (stp_assign (v := I ((i : Int) + 1)) rfl ?_)
        refine sx_nil ?_
        exact ⟨_, (lineNums d).length - (i + 1), (by omega), rfl, i + 1, (by omega), rfl, hs40_1, hs40_3, (Eq.trans (show _ = (.string (((saidB (deedW d.kind) ((lineNums d).take i)) ++ (⟨#[32]⟩ : ByteArray)) ++ (itoaB ((lineNums d)[i]'hi01093))) : Value) from rfl) (congrArg Value.string (by rw [saidB_step (by omega)]; apply ByteArray.ext; simp))), rfl, st45⟩
      · skip
        have h41p := of_decide_eq_false h41
        refine wp_exit ?_
        refine wp_seq ?_
        refine wp_seq ?_
        refine sx_region ?_
        refine sx rfl (stp_assign (v := I 0) rfl ?_)
        refine sx_nil ?_
        refine wp_block ?_
        refine sx_loop (fun (m : Nat) (f : Nat → Value) (W : World) => ∃ (k : Nat), k ≤ d.plan.edges.length ∧ m = d.plan.edges.length - k ∧ f 1 = .pointer (some ⟨b1, 0, none⟩) ∧ f 5 = .string (edgesB (saidB (deedW d.kind) (lineNums d)) (d.plan.edges.take k)) ∧ f 7 = I (k : Int) ∧ St w W ([Res.row (α := Int) 3 v31 (lineNums d) [], Res.row (α := ByteArray) 9 (.slice (some ⟨b16, 0, none⟩) 9 9) ([(⟨#[]⟩ : ByteArray), (⟨#[115, 117, 98, 109, 105, 116]⟩ : ByteArray), (⟨#[112, 111, 108, 108]⟩ : ByteArray), (⟨#[100, 111, 110, 101]⟩ : ByteArray), (⟨#[102, 97, 105, 108]⟩ : ByteArray), (⟨#[116, 105, 99, 107]⟩ : ByteArray), (⟨#[99, 97, 110, 99, 101, 108]⟩ : ByteArray), (⟨#[102, 111, 114, 103, 101, 116]⟩ : ByteArray), (⟨#[115, 116, 97, 114, 116]⟩ : ByteArray)]) [], Res.bx b1 [I d.kind, I d.run, I d.plan.prio, I d.plan.most, I d.plan.wait, I d.plan.tasks, v21_0, I d.task, I d.try_, I d.worker, I d.draw] 50])) (d.plan.edges.length - 0) ?_ ?_
        · exact ⟨0, (by omega), rfl, hs40_1, (Eq.trans (show _ = (.string (saidB (deedW d.kind) ((lineNums d).take i)) : Value) from hs40_5) (congrArg Value.string (by rw [show i = (lineNums d).length by omega, List.take_length]; rfl))), rfl, st39⟩
        intro m47 f48 W49 hJ50
        obtain ⟨k, hk, rfl, hs52_1, hs52_5, hs52_7, st51⟩ := hJ50
        have hes := edgesB_size (s := (saidB (deedW d.kind) (lineNums d))) (es := d.plan.edges.take k) (fun e he => hed e (List.mem_of_mem_take he))
        have hws := deedW_size d.kind
        have htl := List.length_take_le k d.plan.edges
        have hss := saidB_size (word := deedW d.kind) (l := (lineNums d)) h64
        refine wp_seq ?_
        refine wp_seq ?_
        refine sx_region ?_
        refine sx rfl (stp_move (v := I (k : Int)) hs52_7 ?_)
        refine sx rfl (stp_fieldAddr fa_Deed_2 hs52_1 ?_)
        refine sx rfl (stp_fieldAddr fa_Plan_4 rfl ?_)
        refine sx rfl (stp_load_bx ld_EdgeS rfl rfl (st51.get 2 rfl) (i := 6) rfl rfl ?_)
        refine sx rfl (stp_len sl_EdgeS rfl h21_0 ?_)
        refine sx rfl (stp_lss rfl rfl ?_)
        refine sx_nil ?_
        refine sx_if rfl (fun h53 => ?_) (fun h53 => ?_)
        · skip
          have h53p := of_decide_eq_true h53
          refine wp_skip ?_
          refine wp_seq ?_
          refine wp_block ?_
          have hi86a04 : k < d.plan.edges.length := (by omega)
          have hq_ := idx h21_0 (i := k) hi86a04
          obtain ⟨b54, o54, cs54, f54, hp54, hr54, hc54, hm54⟩ := hq_
          have hk55 := hc54
          obtain ⟨he55, rfl, hok55⟩ := hk55
          have he55 : _ = [I (d.plan.edges[k]'hi86a04).from_, I (d.plan.edges[k]'hi86a04).to_] := he55
          subst he55
          have hek := hed _ (List.getElem_mem (l := d.plan.edges) (n := k) (by omega))
          simp only [Edge.ok, I64] at hek
          have hz1 := itoaB_size (z := (d.plan.edges[k]'(by omega)).from_) (by omega)
          have hz2 := itoaB_size (z := (d.plan.edges[k]'(by omega)).to_) (by omega)
          refine sx_any [Pl.is (.string (edgesB (saidB (deedW d.kind) (lineNums d)) (d.plan.edges.take k))), Pl.is (.string ((edgesB (saidB (deedW d.kind) (lineNums d)) (d.plan.edges.take k)) ++ (⟨#[32]⟩ : ByteArray))), Pl.is (.pointer (some ⟨b1, 0 + 2, none⟩)), Pl.is (.pointer (some ⟨b1, 0 + 2 + 4, none⟩)), Pl.is (v21_0) (Sl.yl h21_0), Pl.is (I (k : Int)), Pl.is (.pointer (some ⟨b54, o54, none⟩)), Pl.is (.pointer (some ⟨b54, o54 + 0, none⟩)), Pl.is (I (d.plan.edges[k]'hi86a04).from_), Pl.is (.string (itoaB (d.plan.edges[k]'hi86a04).from_)), Pl.is (.string (((edgesB (saidB (deedW d.kind) (lineNums d)) (d.plan.edges.take k)) ++ (⟨#[32]⟩ : ByteArray)) ++ (itoaB (d.plan.edges[k]'hi86a04).from_))), Pl.is (.string ((((edgesB (saidB (deedW d.kind) (lineNums d)) (d.plan.edges.take k)) ++ (⟨#[32]⟩ : ByteArray)) ++ (itoaB (d.plan.edges[k]'hi86a04).from_)) ++ (⟨#[62]⟩ : ByteArray))), Pl.is (.pointer (some ⟨b1, 0 + 2, none⟩)), Pl.is (.pointer (some ⟨b1, 0 + 2 + 4, none⟩)), Pl.is (v21_0) (Sl.yl h21_0), Pl.is (I (k : Int)), Pl.is (.pointer (some ⟨b54, o54, none⟩)), Pl.is (.pointer (some ⟨b54, o54 + 1, none⟩)), Pl.is (I (d.plan.edges[k]'hi86a04).to_), Pl.is (.string (itoaB (d.plan.edges[k]'hi86a04).to_)), Pl.is (.string (((((edgesB (saidB (deedW d.kind) (lineNums d)) (d.plan.edges.take k)) ++ (⟨#[32]⟩ : ByteArray)) ++ (itoaB (d.plan.edges[k]'hi86a04).from_)) ++ (⟨#[62]⟩ : ByteArray)) ++ (itoaB (d.plan.edges[k]'hi86a04).to_))), Pl.is (.string (((((edgesB (saidB (deedW d.kind) (lineNums d)) (d.plan.edges.take k)) ++ (⟨#[32]⟩ : ByteArray)) ++ (itoaB (d.plan.edges[k]'hi86a04).from_)) ++ (⟨#[62]⟩ : ByteArray)) ++ (itoaB (d.plan.edges[k]'hi86a04).to_)))] mix (by rfl) st51 ⟨(fun f W hst hbl hd hf => stp_move (v := .string (edgesB (saidB (deedW d.kind) (lineNums d)) (d.plan.edges.take k))) ((hf 5 rfl).trans hs52_5) ⟨Below.refl _ _, rfl⟩), (fun f W hst hbl hd hf => stp_sadd (hd 0 90 rfl rfl) rfl (by simp only [ByteArray.size_append, bsz, List.size_toArray, List.length_cons, List.length_nil]; omega) ⟨Below.refl _ _, rfl⟩), (fun f W hst hbl hd hf => stp_fieldAddr fa_Deed_2 ((hf 1 rfl).trans hs52_1) ⟨Below.refl _ _, rfl⟩), (fun f W hst hbl hd hf => stp_fieldAddr fa_Plan_4 (hd 2 92 rfl rfl) ⟨Below.refl _ _, rfl⟩), (fun f W hst hbl hd hf => stp_load_bx ld_EdgeS rfl (hd 3 93 rfl rfl) (hst.get 2 rfl) (i := 6) rfl rfl ⟨Below.refl _ _, rfl⟩), (fun f W hst hbl hd hf => stp_move (v := I (k : Int)) ((hf 7 rfl).trans hs52_7) ⟨Below.refl _ _, rfl⟩), (fun f W hst hbl hd hf => stp_indexAddr sl_EdgeS (hd 4 94 rfl rfl) hp54 (hd 5 95 rfl rfl) rfl ⟨Below.refl _ _, rfl⟩), (fun f W hst hbl hd hf => stp_fieldAddr fa_Edge_0 (hd 6 96 rfl rfl) ⟨Below.refl _ _, rfl⟩), (fun f W hst hbl hd hf => stp_load_rg ld_int rfl (hd 7 97 rfl rfl) hr54 hst.below (i := 0) rfl rfl ⟨Below.refl _ _, rfl⟩), (fun f W hst hbl hd hf => stp_call1 Tryd.func24 rfl (hd 8 98 rfl rfl) ((DecimalS W (d.plan.edges[k]'hi86a04).from_ (by omega)).mono (by rintro e W2 ⟨rfl, hk⟩; exact ⟨_, rfl, hk.below, rfl⟩))), (fun f W hst hbl hd hf => stp_sadd (hd 1 91 rfl rfl) (hd 9 99 rfl rfl) (by simp only [ByteArray.size_append, bsz, List.size_toArray, List.length_cons, List.length_nil]; omega) ⟨Below.refl _ _, rfl⟩), (fun f W hst hbl hd hf => stp_sadd (hd 10 100 rfl rfl) rfl (by simp only [ByteArray.size_append, bsz, List.size_toArray, List.length_cons, List.length_nil]; omega) ⟨Below.refl _ _, rfl⟩), (fun f W hst hbl hd hf => stp_fieldAddr fa_Deed_2 ((hf 1 rfl).trans hs52_1) ⟨Below.refl _ _, rfl⟩), (fun f W hst hbl hd hf => stp_fieldAddr fa_Plan_4 (hd 12 102 rfl rfl) ⟨Below.refl _ _, rfl⟩), (fun f W hst hbl hd hf => stp_load_bx ld_EdgeS rfl (hd 13 103 rfl rfl) (hst.get 2 rfl) (i := 6) rfl rfl ⟨Below.refl _ _, rfl⟩), (fun f W hst hbl hd hf => stp_move (v := I (k : Int)) ((hf 7 rfl).trans hs52_7) ⟨Below.refl _ _, rfl⟩), (fun f W hst hbl hd hf => stp_indexAddr sl_EdgeS (hd 14 104 rfl rfl) hp54 (hd 15 105 rfl rfl) rfl ⟨Below.refl _ _, rfl⟩), (fun f W hst hbl hd hf => stp_fieldAddr fa_Edge_1 (hd 16 106 rfl rfl) ⟨Below.refl _ _, rfl⟩), (fun f W hst hbl hd hf => stp_load_rg ld_int rfl (hd 17 107 rfl rfl) hr54 hst.below (i := 1) rfl rfl ⟨Below.refl _ _, rfl⟩), (fun f W hst hbl hd hf => stp_call1 Tryd.func24 rfl (hd 18 108 rfl rfl) ((DecimalS W (d.plan.edges[k]'hi86a04).to_ (by omega)).mono (by rintro e W2 ⟨rfl, hk⟩; exact ⟨_, rfl, hk.below, rfl⟩))), (fun f W hst hbl hd hf => stp_sadd (hd 11 101 rfl rfl) (hd 19 109 rfl rfl) (by simp only [ByteArray.size_append, bsz, List.size_toArray, List.length_cons, List.length_nil]; omega) ⟨Below.refl _ _, rfl⟩), (fun f W hst hbl hd hf => stp_assign (v := .string (((((edgesB (saidB (deedW d.kind) (lineNums d)) (d.plan.edges.take k)) ++ (⟨#[32]⟩ : ByteArray)) ++ (itoaB (d.plan.edges[k]'hi86a04).from_)) ++ (⟨#[62]⟩ : ByteArray)) ++ (itoaB (d.plan.edges[k]'hi86a04).to_))) (hd 20 110 rfl rfl) ⟨Below.refl _ _, rfl⟩), trivial⟩ ?_
          intro f56 W57 st58 hb59 hv60 hf61
          refine sx_region ?_
          refine sx rfl (stp_move (v := I (k : Int)) ((hf61 7 rfl).trans hs52_7) ?_)
          refine sx rfl (stp_add rfl rfl (by (simp only [I64] at *; omega)) ?_)
          refine sx rfl (stp_assign (v := I ((k : Int) + 1)) rfl ?_)
          refine sx_nil ?_
          exact ⟨_, d.plan.edges.length - (k + 1), (by omega), rfl, k + 1, (by omega), rfl, ((hf61 1 rfl).trans hs52_1), (Eq.trans (show _ = (.string (((((edgesB (saidB (deedW d.kind) (lineNums d)) (d.plan.edges.take k)) ++ (⟨#[32]⟩ : ByteArray)) ++ (itoaB (d.plan.edges[k]'hi86a04).from_)) ++ (⟨#[62]⟩ : ByteArray)) ++ (itoaB (d.plan.edges[k]'hi86a04).to_)) : Value) from (hv60 21 5 (by decide) rfl)) (congrArg Value.string (by rw [edgesB_step (by omega), edgeB]; apply ByteArray.ext; simp))), rfl, st58⟩
        · skip
          have h53p := of_decide_eq_false h53
          refine wp_exit ?_
          refine wp_seq ?_
          refine sx_region ?_
          refine sx rfl (stp_move (v := .string (edgesB (saidB (deedW d.kind) (lineNums d)) (d.plan.edges.take k))) hs52_5 ?_)
          refine sx rfl (stp_assign (v := .string (edgesB (saidB (deedW d.kind) (lineNums d)) (d.plan.edges.take k))) rfl ?_)
          refine sx_nil ?_
          refine wp_ret ?_; repeat (first | refine then_ret ?_ | refine blk_ret ?_)
          refine ret1 Tryd.results16 rfl ?_
          obtain rfl : k = d.plan.edges.length := by omega
          exact ⟨(congrArg (fun z => Ending.returned (.string z)) (by unfold deedLine; rw [(bnot_f h10), if_pos rfl, List.take_length])), st51.bare⟩
    · skip
      have h24p := of_decide_eq_false h24
      refine wp_seq ?_
      refine sx_region ?_
      refine sx rfl (stp_eql rfl rfl ?_)
      refine sx rfl (stp_assign (v := .bool (decide (d.kind = 2))) rfl ?_)
      refine sx_nil ?_
      refine sx_if rfl (fun h62 => ?_) (fun h62 => ?_)
      · skip
        have h62p := of_decide_eq_true h62
        refine sx_region ?_
        refine sx rfl (stp_move (v := (.slice (some ⟨b11, 0, none⟩) 0 0)) rfl ?_)
        refine sx rfl (stp_fieldAddr fa_Deed_5 rfl ?_)
        refine sx rfl (stp_load_bx ld_int rfl rfl (st22.get 2 rfl) (i := 9) rfl rfl ?_)
        refine sx rfl (stp_fieldAddr fa_Deed_6 rfl ?_)
        refine sx rfl (stp_load_bx ld_int rfl rfl (st22.get 2 rfl) (i := 10) rfl rfl ?_)
        refine sx rfl (stp_buildSlice (cs := [I d.worker, I d.draw]) (e := 3) (pcons (v := I d.worker) rfl (pcons (v := I d.draw) rfl pnil)) (run_buildSliceN ap_IntS _ rfl (lc_cons rfl (lc_cons rfl lc_nil))) st22 ?_); intro b63 W64 hb65 st66
        have st68 := st66.f2
        refine sx rfl (stp_append_bx (ys := [d.worker, d.draw]) ap_IntS rfl rfl rfl st68 (Elems.ic (by simp only [I64]; omega) (Elems.ic (by simp only [I64]; omega) Elems.i0)) (by simp only [List.length_nil, List.length_cons, maxLen]; omega) (by simp only [List.length_nil, List.length_cons]; omega) ?_); intro v69 W70 st71
        refine sx rfl (stp_assign (v := v69) rfl ?_)
        refine sx_nil ?_
        refine wp_seq ?_
        refine sx_region ?_
        have hlist : [] ++ [d.worker, d.draw] = (lineNums d) := by unfold lineNums deedNums; first | rw [if_pos (by omega)]; rfl | (rw [if_neg (by omega), if_neg (by omega)]; first | (rw [if_pos (by omega)]; rfl) | (rw [if_neg (by omega), if_pos (by omega)]; rfl) | (rw [if_neg (by omega), if_neg (by omega), if_pos (by omega)]; rfl) | (rw [if_neg (by omega), if_neg (by omega), if_neg (by omega)]))
        have st72 := st71; rw [hlist] at st72
        skip
        refine sx rfl (stp_move (v := .string (([(⟨#[]⟩ : ByteArray), (⟨#[115, 117, 98, 109, 105, 116]⟩ : ByteArray), (⟨#[112, 111, 108, 108]⟩ : ByteArray), (⟨#[100, 111, 110, 101]⟩ : ByteArray), (⟨#[102, 97, 105, 108]⟩ : ByteArray), (⟨#[116, 105, 99, 107]⟩ : ByteArray), (⟨#[99, 97, 110, 99, 101, 108]⟩ : ByteArray), (⟨#[102, 111, 114, 103, 101, 116]⟩ : ByteArray), (⟨#[115, 116, 97, 114, 116]⟩ : ByteArray)])[(d.kind).toNat]'hic1759)) rfl ?_)
        refine sx rfl (stp_assign (v := .string (([(⟨#[]⟩ : ByteArray), (⟨#[115, 117, 98, 109, 105, 116]⟩ : ByteArray), (⟨#[112, 111, 108, 108]⟩ : ByteArray), (⟨#[100, 111, 110, 101]⟩ : ByteArray), (⟨#[102, 97, 105, 108]⟩ : ByteArray), (⟨#[116, 105, 99, 107]⟩ : ByteArray), (⟨#[99, 97, 110, 99, 101, 108]⟩ : ByteArray), (⟨#[102, 111, 114, 103, 101, 116]⟩ : ByteArray), (⟨#[115, 116, 97, 114, 116]⟩ : ByteArray)])[(d.kind).toNat]'hic1759)) rfl ?_)
        refine sx_nil ?_
        refine wp_seq ?_
        refine wp_seq ?_
        refine sx_region ?_
        refine sx rfl (stp_assign (v := I 0) rfl ?_)
        refine sx_nil ?_
        refine wp_block ?_
        refine sx_loop (fun (m : Nat) (f : Nat → Value) (W : World) => ∃ (i : Nat), i ≤ (lineNums d).length ∧ m = (lineNums d).length - i ∧ f 1 = .pointer (some ⟨b1, 0, none⟩) ∧ f 3 = v69 ∧ f 5 = .string (saidB (deedW d.kind) ((lineNums d).take i)) ∧ f 6 = I (i : Int) ∧ St w W ([Res.row (α := Int) 3 v69 (lineNums d) [], Res.row (α := ByteArray) 9 (.slice (some ⟨b16, 0, none⟩) 9 9) ([(⟨#[]⟩ : ByteArray), (⟨#[115, 117, 98, 109, 105, 116]⟩ : ByteArray), (⟨#[112, 111, 108, 108]⟩ : ByteArray), (⟨#[100, 111, 110, 101]⟩ : ByteArray), (⟨#[102, 97, 105, 108]⟩ : ByteArray), (⟨#[116, 105, 99, 107]⟩ : ByteArray), (⟨#[99, 97, 110, 99, 101, 108]⟩ : ByteArray), (⟨#[102, 111, 114, 103, 101, 116]⟩ : ByteArray), (⟨#[115, 116, 97, 114, 116]⟩ : ByteArray)]) [], Res.bx b1 [I d.kind, I d.run, I d.plan.prio, I d.plan.most, I d.plan.wait, I d.plan.tasks, v21_0, I d.task, I d.try_, I d.worker, I d.draw] 50])) ((lineNums d).length - 0) ?_ ?_
        · exact ⟨0, (by omega), rfl, rfl, rfl, (Eq.trans (show _ = (.string (([(⟨#[]⟩ : ByteArray), (⟨#[115, 117, 98, 109, 105, 116]⟩ : ByteArray), (⟨#[112, 111, 108, 108]⟩ : ByteArray), (⟨#[100, 111, 110, 101]⟩ : ByteArray), (⟨#[102, 97, 105, 108]⟩ : ByteArray), (⟨#[116, 105, 99, 107]⟩ : ByteArray), (⟨#[99, 97, 110, 99, 101, 108]⟩ : ByteArray), (⟨#[102, 111, 114, 103, 101, 116]⟩ : ByteArray), (⟨#[115, 116, 97, 114, 116]⟩ : ByteArray)])[(d.kind).toNat]'hic1759) : Value) from rfl) (congrArg Value.string (deedW_S (by omega) _))), rfl, st72⟩
        intro m73 f74 W75 hJ76
        obtain ⟨i, hi, rfl, hs78_1, hs78_3, hs78_5, hs78_6, st77⟩ := hJ76
        have hss := saidB_size (word := deedW d.kind) (l := (lineNums d).take i) (fun n hn => h64 n (List.mem_of_mem_take hn))
        have htl := List.length_take_le i (lineNums d)
        have hws := deedW_size d.kind
        refine wp_seq ?_
        refine wp_seq ?_
        refine sx_region ?_
        refine sx rfl (stp_move (v := I (i : Int)) hs78_6 ?_)
        refine sx rfl (stp_move (v := v69) hs78_3 ?_)
        refine sx rfl (stp_len sl_IntS rfl (row_Sl (st77.get 0 rfl)) ?_)
        refine sx rfl (stp_lss rfl rfl ?_)
        refine sx_nil ?_
        refine sx_if rfl (fun h79 => ?_) (fun h79 => ?_)
        · skip
          have h79p := of_decide_eq_true h79
          refine wp_skip ?_
          refine wp_seq ?_
          refine wp_block ?_
          refine sx_region ?_
          refine sx rfl (stp_move (v := .string (saidB (deedW d.kind) ((lineNums d).take i))) hs78_5 ?_)
          refine sx rfl (stp_sadd rfl rfl (by simp only [ByteArray.size_append, bsz, List.size_toArray, List.length_cons, List.length_nil]; omega) ?_)
          refine sx rfl (stp_move (v := v69) hs78_3 ?_)
          refine sx rfl (stp_move (v := I (i : Int)) hs78_6 ?_)
          have hi01093 : i < (lineNums d).length := (by omega)
          have hq_ := idx (row_Sl (st77.get 0 rfl)) (i := i) hi01093
          obtain ⟨b80, o80, cs80, f80, hp80, hr80, hc80, hm80⟩ := hq_
          have hk80 := hc80
          obtain ⟨rfl, rfl, hok80⟩ := hk80
          refine sx rfl (stp_indexAddr sl_IntS rfl hp80 rfl rfl ?_)
          have hik := h64 _ (List.getElem_mem (l := lineNums d) (n := i) (by omega))
          simp only [I64] at hik
          have hiz := itoaB_size (z := ((lineNums d)[i]'(by omega))) (by omega)
          refine sx rfl (stp_load_rg ld_int rfl rfl hr80 (Below.refl _ _) (i := 0) rfl rfl ?_)
          refine sx rfl (stp_call1 Tryd.func24 rfl rfl ((DecimalS W75 ((lineNums d)[i]'hi01093) (by omega)).mono ?_)); rintro _ W81 ⟨rfl, hk82⟩; refine ⟨_, rfl, ?_⟩
          have st83 := St.call st77 hk82
          refine sx rfl (stp_sadd rfl rfl (by simp only [ByteArray.size_append, bsz, List.size_toArray, List.length_cons, List.length_nil]; omega) ?_)
          refine sx rfl (stp_assign (v := .string (((saidB (deedW d.kind) ((lineNums d).take i)) ++ (⟨#[32]⟩ : ByteArray)) ++ (itoaB ((lineNums d)[i]'hi01093)))) rfl ?_)
          refine sx_nil ?_
          refine sx_region ?_
          refine sx rfl (stp_move (v := I (i : Int)) hs78_6 ?_)
          refine sx rfl (stp_add rfl rfl (by (simp only [I64] at *; omega)) ?_)
          refine sx rfl (stp_assign (v := I ((i : Int) + 1)) rfl ?_)
          refine sx_nil ?_
          exact ⟨_, (lineNums d).length - (i + 1), (by omega), rfl, i + 1, (by omega), rfl, hs78_1, hs78_3, (Eq.trans (show _ = (.string (((saidB (deedW d.kind) ((lineNums d).take i)) ++ (⟨#[32]⟩ : ByteArray)) ++ (itoaB ((lineNums d)[i]'hi01093))) : Value) from rfl) (congrArg Value.string (by rw [saidB_step (by omega)]; apply ByteArray.ext; simp))), rfl, st83⟩
        · skip
          have h79p := of_decide_eq_false h79
          refine wp_exit ?_
          refine wp_seq ?_
          refine wp_seq ?_
          refine sx_region ?_
          refine sx rfl (stp_assign (v := I 0) rfl ?_)
          refine sx_nil ?_
          refine wp_block ?_
          refine sx_loop (fun (m : Nat) (f : Nat → Value) (W : World) => ∃ (k : Nat), k ≤ d.plan.edges.length ∧ m = d.plan.edges.length - k ∧ f 1 = .pointer (some ⟨b1, 0, none⟩) ∧ f 5 = .string (edgesB (saidB (deedW d.kind) (lineNums d)) (d.plan.edges.take k)) ∧ f 7 = I (k : Int) ∧ St w W ([Res.row (α := Int) 3 v69 (lineNums d) [], Res.row (α := ByteArray) 9 (.slice (some ⟨b16, 0, none⟩) 9 9) ([(⟨#[]⟩ : ByteArray), (⟨#[115, 117, 98, 109, 105, 116]⟩ : ByteArray), (⟨#[112, 111, 108, 108]⟩ : ByteArray), (⟨#[100, 111, 110, 101]⟩ : ByteArray), (⟨#[102, 97, 105, 108]⟩ : ByteArray), (⟨#[116, 105, 99, 107]⟩ : ByteArray), (⟨#[99, 97, 110, 99, 101, 108]⟩ : ByteArray), (⟨#[102, 111, 114, 103, 101, 116]⟩ : ByteArray), (⟨#[115, 116, 97, 114, 116]⟩ : ByteArray)]) [], Res.bx b1 [I d.kind, I d.run, I d.plan.prio, I d.plan.most, I d.plan.wait, I d.plan.tasks, v21_0, I d.task, I d.try_, I d.worker, I d.draw] 50])) (d.plan.edges.length - 0) ?_ ?_
          · exact ⟨0, (by omega), rfl, hs78_1, (Eq.trans (show _ = (.string (saidB (deedW d.kind) ((lineNums d).take i)) : Value) from hs78_5) (congrArg Value.string (by rw [show i = (lineNums d).length by omega, List.take_length]; rfl))), rfl, st77⟩
          intro m85 f86 W87 hJ88
          obtain ⟨k, hk, rfl, hs90_1, hs90_5, hs90_7, st89⟩ := hJ88
          have hes := edgesB_size (s := (saidB (deedW d.kind) (lineNums d))) (es := d.plan.edges.take k) (fun e he => hed e (List.mem_of_mem_take he))
          have hws := deedW_size d.kind
          have htl := List.length_take_le k d.plan.edges
          have hss := saidB_size (word := deedW d.kind) (l := (lineNums d)) h64
          refine wp_seq ?_
          refine wp_seq ?_
          refine sx_region ?_
          refine sx rfl (stp_move (v := I (k : Int)) hs90_7 ?_)
          refine sx rfl (stp_fieldAddr fa_Deed_2 hs90_1 ?_)
          refine sx rfl (stp_fieldAddr fa_Plan_4 rfl ?_)
          refine sx rfl (stp_load_bx ld_EdgeS rfl rfl (st89.get 2 rfl) (i := 6) rfl rfl ?_)
          refine sx rfl (stp_len sl_EdgeS rfl h21_0 ?_)
          refine sx rfl (stp_lss rfl rfl ?_)
          refine sx_nil ?_
          refine sx_if rfl (fun h91 => ?_) (fun h91 => ?_)
          · skip
            have h91p := of_decide_eq_true h91
            refine wp_skip ?_
            refine wp_seq ?_
            refine wp_block ?_
            have hi86a04 : k < d.plan.edges.length := (by omega)
            have hq_ := idx h21_0 (i := k) hi86a04
            obtain ⟨b92, o92, cs92, f92, hp92, hr92, hc92, hm92⟩ := hq_
            have hk93 := hc92
            obtain ⟨he93, rfl, hok93⟩ := hk93
            have he93 : _ = [I (d.plan.edges[k]'hi86a04).from_, I (d.plan.edges[k]'hi86a04).to_] := he93
            subst he93
            have hek := hed _ (List.getElem_mem (l := d.plan.edges) (n := k) (by omega))
            simp only [Edge.ok, I64] at hek
            have hz1 := itoaB_size (z := (d.plan.edges[k]'(by omega)).from_) (by omega)
            have hz2 := itoaB_size (z := (d.plan.edges[k]'(by omega)).to_) (by omega)
            refine sx_any [Pl.is (.string (edgesB (saidB (deedW d.kind) (lineNums d)) (d.plan.edges.take k))), Pl.is (.string ((edgesB (saidB (deedW d.kind) (lineNums d)) (d.plan.edges.take k)) ++ (⟨#[32]⟩ : ByteArray))), Pl.is (.pointer (some ⟨b1, 0 + 2, none⟩)), Pl.is (.pointer (some ⟨b1, 0 + 2 + 4, none⟩)), Pl.is (v21_0) (Sl.yl h21_0), Pl.is (I (k : Int)), Pl.is (.pointer (some ⟨b92, o92, none⟩)), Pl.is (.pointer (some ⟨b92, o92 + 0, none⟩)), Pl.is (I (d.plan.edges[k]'hi86a04).from_), Pl.is (.string (itoaB (d.plan.edges[k]'hi86a04).from_)), Pl.is (.string (((edgesB (saidB (deedW d.kind) (lineNums d)) (d.plan.edges.take k)) ++ (⟨#[32]⟩ : ByteArray)) ++ (itoaB (d.plan.edges[k]'hi86a04).from_))), Pl.is (.string ((((edgesB (saidB (deedW d.kind) (lineNums d)) (d.plan.edges.take k)) ++ (⟨#[32]⟩ : ByteArray)) ++ (itoaB (d.plan.edges[k]'hi86a04).from_)) ++ (⟨#[62]⟩ : ByteArray))), Pl.is (.pointer (some ⟨b1, 0 + 2, none⟩)), Pl.is (.pointer (some ⟨b1, 0 + 2 + 4, none⟩)), Pl.is (v21_0) (Sl.yl h21_0), Pl.is (I (k : Int)), Pl.is (.pointer (some ⟨b92, o92, none⟩)), Pl.is (.pointer (some ⟨b92, o92 + 1, none⟩)), Pl.is (I (d.plan.edges[k]'hi86a04).to_), Pl.is (.string (itoaB (d.plan.edges[k]'hi86a04).to_)), Pl.is (.string (((((edgesB (saidB (deedW d.kind) (lineNums d)) (d.plan.edges.take k)) ++ (⟨#[32]⟩ : ByteArray)) ++ (itoaB (d.plan.edges[k]'hi86a04).from_)) ++ (⟨#[62]⟩ : ByteArray)) ++ (itoaB (d.plan.edges[k]'hi86a04).to_))), Pl.is (.string (((((edgesB (saidB (deedW d.kind) (lineNums d)) (d.plan.edges.take k)) ++ (⟨#[32]⟩ : ByteArray)) ++ (itoaB (d.plan.edges[k]'hi86a04).from_)) ++ (⟨#[62]⟩ : ByteArray)) ++ (itoaB (d.plan.edges[k]'hi86a04).to_)))] mix (by rfl) st89 ⟨(fun f W hst hbl hd hf => stp_move (v := .string (edgesB (saidB (deedW d.kind) (lineNums d)) (d.plan.edges.take k))) ((hf 5 rfl).trans hs90_5) ⟨Below.refl _ _, rfl⟩), (fun f W hst hbl hd hf => stp_sadd (hd 0 90 rfl rfl) rfl (by simp only [ByteArray.size_append, bsz, List.size_toArray, List.length_cons, List.length_nil]; omega) ⟨Below.refl _ _, rfl⟩), (fun f W hst hbl hd hf => stp_fieldAddr fa_Deed_2 ((hf 1 rfl).trans hs90_1) ⟨Below.refl _ _, rfl⟩), (fun f W hst hbl hd hf => stp_fieldAddr fa_Plan_4 (hd 2 92 rfl rfl) ⟨Below.refl _ _, rfl⟩), (fun f W hst hbl hd hf => stp_load_bx ld_EdgeS rfl (hd 3 93 rfl rfl) (hst.get 2 rfl) (i := 6) rfl rfl ⟨Below.refl _ _, rfl⟩), (fun f W hst hbl hd hf => stp_move (v := I (k : Int)) ((hf 7 rfl).trans hs90_7) ⟨Below.refl _ _, rfl⟩), (fun f W hst hbl hd hf => stp_indexAddr sl_EdgeS (hd 4 94 rfl rfl) hp92 (hd 5 95 rfl rfl) rfl ⟨Below.refl _ _, rfl⟩), (fun f W hst hbl hd hf => stp_fieldAddr fa_Edge_0 (hd 6 96 rfl rfl) ⟨Below.refl _ _, rfl⟩), (fun f W hst hbl hd hf => stp_load_rg ld_int rfl (hd 7 97 rfl rfl) hr92 hst.below (i := 0) rfl rfl ⟨Below.refl _ _, rfl⟩), (fun f W hst hbl hd hf => stp_call1 Tryd.func24 rfl (hd 8 98 rfl rfl) ((DecimalS W (d.plan.edges[k]'hi86a04).from_ (by omega)).mono (by rintro e W2 ⟨rfl, hk⟩; exact ⟨_, rfl, hk.below, rfl⟩))), (fun f W hst hbl hd hf => stp_sadd (hd 1 91 rfl rfl) (hd 9 99 rfl rfl) (by simp only [ByteArray.size_append, bsz, List.size_toArray, List.length_cons, List.length_nil]; omega) ⟨Below.refl _ _, rfl⟩), (fun f W hst hbl hd hf => stp_sadd (hd 10 100 rfl rfl) rfl (by simp only [ByteArray.size_append, bsz, List.size_toArray, List.length_cons, List.length_nil]; omega) ⟨Below.refl _ _, rfl⟩), (fun f W hst hbl hd hf => stp_fieldAddr fa_Deed_2 ((hf 1 rfl).trans hs90_1) ⟨Below.refl _ _, rfl⟩), (fun f W hst hbl hd hf => stp_fieldAddr fa_Plan_4 (hd 12 102 rfl rfl) ⟨Below.refl _ _, rfl⟩), (fun f W hst hbl hd hf => stp_load_bx ld_EdgeS rfl (hd 13 103 rfl rfl) (hst.get 2 rfl) (i := 6) rfl rfl ⟨Below.refl _ _, rfl⟩), (fun f W hst hbl hd hf => stp_move (v := I (k : Int)) ((hf 7 rfl).trans hs90_7) ⟨Below.refl _ _, rfl⟩), (fun f W hst hbl hd hf => stp_indexAddr sl_EdgeS (hd 14 104 rfl rfl) hp92 (hd 15 105 rfl rfl) rfl ⟨Below.refl _ _, rfl⟩), (fun f W hst hbl hd hf => stp_fieldAddr fa_Edge_1 (hd 16 106 rfl rfl) ⟨Below.refl _ _, rfl⟩), (fun f W hst hbl hd hf => stp_load_rg ld_int rfl (hd 17 107 rfl rfl) hr92 hst.below (i := 1) rfl rfl ⟨Below.refl _ _, rfl⟩), (fun f W hst hbl hd hf => stp_call1 Tryd.func24 rfl (hd 18 108 rfl rfl) ((DecimalS W (d.plan.edges[k]'hi86a04).to_ (by omega)).mono (by rintro e W2 ⟨rfl, hk⟩; exact ⟨_, rfl, hk.below, rfl⟩))), (fun f W hst hbl hd hf => stp_sadd (hd 11 101 rfl rfl) (hd 19 109 rfl rfl) (by simp only [ByteArray.size_append, bsz, List.size_toArray, List.length_cons, List.length_nil]; omega) ⟨Below.refl _ _, rfl⟩), (fun f W hst hbl hd hf => stp_assign (v := .string (((((edgesB (saidB (deedW d.kind) (lineNums d)) (d.plan.edges.take k)) ++ (⟨#[32]⟩ : ByteArray)) ++ (itoaB (d.plan.edges[k]'hi86a04).from_)) ++ (⟨#[62]⟩ : ByteArray)) ++ (itoaB (d.plan.edges[k]'hi86a04).to_))) (hd 20 110 rfl rfl) ⟨Below.refl _ _, rfl⟩), trivial⟩ ?_
            intro f94 W95 st96 hb97 hv98 hf99
            refine sx_region ?_
            refine sx rfl (stp_move (v := I (k : Int)) ((hf99 7 rfl).trans hs90_7) ?_)
            refine sx rfl (stp_add rfl rfl (by (simp only [I64] at *; omega)) ?_)
            refine sx rfl (stp_assign (v := I ((k : Int) + 1)) rfl ?_)
            refine sx_nil ?_
            exact ⟨_, d.plan.edges.length - (k + 1), (by omega), rfl, k + 1, (by omega), rfl, ((hf99 1 rfl).trans hs90_1), (Eq.trans (show _ = (.string (((((edgesB (saidB (deedW d.kind) (lineNums d)) (d.plan.edges.take k)) ++ (⟨#[32]⟩ : ByteArray)) ++ (itoaB (d.plan.edges[k]'hi86a04).from_)) ++ (⟨#[62]⟩ : ByteArray)) ++ (itoaB (d.plan.edges[k]'hi86a04).to_)) : Value) from (hv98 21 5 (by decide) rfl)) (congrArg Value.string (by rw [edgesB_step (by omega), edgeB]; apply ByteArray.ext; simp))), rfl, st96⟩
          · skip
            have h91p := of_decide_eq_false h91
            refine wp_exit ?_
            refine wp_seq ?_
            refine sx_region ?_
            refine sx rfl (stp_move (v := .string (edgesB (saidB (deedW d.kind) (lineNums d)) (d.plan.edges.take k))) hs90_5 ?_)
            refine sx rfl (stp_assign (v := .string (edgesB (saidB (deedW d.kind) (lineNums d)) (d.plan.edges.take k))) rfl ?_)
            refine sx_nil ?_
            refine wp_ret ?_; repeat (first | refine then_ret ?_ | refine blk_ret ?_)
            refine ret1 Tryd.results16 rfl ?_
            obtain rfl : k = d.plan.edges.length := by omega
            exact ⟨(congrArg (fun z => Ending.returned (.string z)) (by unfold deedLine; rw [(bnot_f h10), if_pos rfl, List.take_length])), st89.bare⟩
      · skip
        have h62p := of_decide_eq_false h62
        refine wp_seq ?_
        refine wp_seq ?_
        refine sx_region ?_
        refine sx rfl (stp_eql rfl rfl ?_)
        refine sx rfl (stp_assign (v := .bool (decide (d.kind = 3))) rfl ?_)
        refine sx_nil ?_
        refine sx_if rfl (fun h100 => ?_) (fun h100 => ?_)
        · skip
          have h100p := of_decide_eq_true h100
          refine wp_skip ?_
          refine sx_t rfl h100 ?_
          refine sx_region ?_
          refine sx rfl (stp_move (v := (.slice (some ⟨b11, 0, none⟩) 0 0)) rfl ?_)
          refine sx rfl (stp_fieldAddr fa_Deed_1 rfl ?_)
          refine sx rfl (stp_load_bx ld_int rfl rfl (st22.get 2 rfl) (i := 1) rfl rfl ?_)
          refine sx rfl (stp_fieldAddr fa_Deed_3 rfl ?_)
          refine sx rfl (stp_load_bx ld_int rfl rfl (st22.get 2 rfl) (i := 7) rfl rfl ?_)
          refine sx rfl (stp_fieldAddr fa_Deed_4 rfl ?_)
          refine sx rfl (stp_load_bx ld_int rfl rfl (st22.get 2 rfl) (i := 8) rfl rfl ?_)
          refine sx rfl (stp_buildSlice (cs := [I d.run, I d.task, I d.try_]) (e := 3) (pcons (v := I d.run) rfl (pcons (v := I d.task) rfl (pcons (v := I d.try_) rfl pnil))) (run_buildSliceN ap_IntS _ rfl (lc_cons rfl (lc_cons rfl (lc_cons rfl lc_nil)))) st22 ?_); intro b101 W102 hb103 st104
          have st106 := st104.f2
          refine sx rfl (stp_append_bx (ys := [d.run, d.task, d.try_]) ap_IntS rfl rfl rfl st106 (Elems.ic (by simp only [I64]; omega) (Elems.ic (by simp only [I64]; omega) (Elems.ic (by simp only [I64]; omega) Elems.i0))) (by simp only [List.length_nil, List.length_cons, maxLen]; omega) (by simp only [List.length_nil, List.length_cons]; omega) ?_); intro v107 W108 st109
          refine sx rfl (stp_assign (v := v107) rfl ?_)
          refine sx_nil ?_
          refine wp_seq ?_
          refine sx_region ?_
          have hlist : [] ++ [d.run, d.task, d.try_] = (lineNums d) := by unfold lineNums deedNums; first | rw [if_pos (by omega)]; rfl | (rw [if_neg (by omega), if_neg (by omega)]; first | (rw [if_pos (by omega)]; rfl) | (rw [if_neg (by omega), if_pos (by omega)]; rfl) | (rw [if_neg (by omega), if_neg (by omega), if_pos (by omega)]; rfl) | (rw [if_neg (by omega), if_neg (by omega), if_neg (by omega)]))
          have st110 := st109; rw [hlist] at st110
          skip
          refine sx rfl (stp_move (v := .string (([(⟨#[]⟩ : ByteArray), (⟨#[115, 117, 98, 109, 105, 116]⟩ : ByteArray), (⟨#[112, 111, 108, 108]⟩ : ByteArray), (⟨#[100, 111, 110, 101]⟩ : ByteArray), (⟨#[102, 97, 105, 108]⟩ : ByteArray), (⟨#[116, 105, 99, 107]⟩ : ByteArray), (⟨#[99, 97, 110, 99, 101, 108]⟩ : ByteArray), (⟨#[102, 111, 114, 103, 101, 116]⟩ : ByteArray), (⟨#[115, 116, 97, 114, 116]⟩ : ByteArray)])[(d.kind).toNat]'hic1759)) rfl ?_)
          refine sx rfl (stp_assign (v := .string (([(⟨#[]⟩ : ByteArray), (⟨#[115, 117, 98, 109, 105, 116]⟩ : ByteArray), (⟨#[112, 111, 108, 108]⟩ : ByteArray), (⟨#[100, 111, 110, 101]⟩ : ByteArray), (⟨#[102, 97, 105, 108]⟩ : ByteArray), (⟨#[116, 105, 99, 107]⟩ : ByteArray), (⟨#[99, 97, 110, 99, 101, 108]⟩ : ByteArray), (⟨#[102, 111, 114, 103, 101, 116]⟩ : ByteArray), (⟨#[115, 116, 97, 114, 116]⟩ : ByteArray)])[(d.kind).toNat]'hic1759)) rfl ?_)
          refine sx_nil ?_
          refine wp_seq ?_
          refine wp_seq ?_
          refine sx_region ?_
          refine sx rfl (stp_assign (v := I 0) rfl ?_)
          refine sx_nil ?_
          refine wp_block ?_
          refine sx_loop (fun (m : Nat) (f : Nat → Value) (W : World) => ∃ (i : Nat), i ≤ (lineNums d).length ∧ m = (lineNums d).length - i ∧ f 1 = .pointer (some ⟨b1, 0, none⟩) ∧ f 3 = v107 ∧ f 5 = .string (saidB (deedW d.kind) ((lineNums d).take i)) ∧ f 6 = I (i : Int) ∧ St w W ([Res.row (α := Int) 3 v107 (lineNums d) [], Res.row (α := ByteArray) 9 (.slice (some ⟨b16, 0, none⟩) 9 9) ([(⟨#[]⟩ : ByteArray), (⟨#[115, 117, 98, 109, 105, 116]⟩ : ByteArray), (⟨#[112, 111, 108, 108]⟩ : ByteArray), (⟨#[100, 111, 110, 101]⟩ : ByteArray), (⟨#[102, 97, 105, 108]⟩ : ByteArray), (⟨#[116, 105, 99, 107]⟩ : ByteArray), (⟨#[99, 97, 110, 99, 101, 108]⟩ : ByteArray), (⟨#[102, 111, 114, 103, 101, 116]⟩ : ByteArray), (⟨#[115, 116, 97, 114, 116]⟩ : ByteArray)]) [], Res.bx b1 [I d.kind, I d.run, I d.plan.prio, I d.plan.most, I d.plan.wait, I d.plan.tasks, v21_0, I d.task, I d.try_, I d.worker, I d.draw] 50])) ((lineNums d).length - 0) ?_ ?_
          · exact ⟨0, (by omega), rfl, rfl, rfl, (Eq.trans (show _ = (.string (([(⟨#[]⟩ : ByteArray), (⟨#[115, 117, 98, 109, 105, 116]⟩ : ByteArray), (⟨#[112, 111, 108, 108]⟩ : ByteArray), (⟨#[100, 111, 110, 101]⟩ : ByteArray), (⟨#[102, 97, 105, 108]⟩ : ByteArray), (⟨#[116, 105, 99, 107]⟩ : ByteArray), (⟨#[99, 97, 110, 99, 101, 108]⟩ : ByteArray), (⟨#[102, 111, 114, 103, 101, 116]⟩ : ByteArray), (⟨#[115, 116, 97, 114, 116]⟩ : ByteArray)])[(d.kind).toNat]'hic1759) : Value) from rfl) (congrArg Value.string (deedW_S (by omega) _))), rfl, st110⟩
          intro m111 f112 W113 hJ114
          obtain ⟨i, hi, rfl, hs116_1, hs116_3, hs116_5, hs116_6, st115⟩ := hJ114
          have hss := saidB_size (word := deedW d.kind) (l := (lineNums d).take i) (fun n hn => h64 n (List.mem_of_mem_take hn))
          have htl := List.length_take_le i (lineNums d)
          have hws := deedW_size d.kind
          refine wp_seq ?_
          refine wp_seq ?_
          refine sx_region ?_
          refine sx rfl (stp_move (v := I (i : Int)) hs116_6 ?_)
          refine sx rfl (stp_move (v := v107) hs116_3 ?_)
          refine sx rfl (stp_len sl_IntS rfl (row_Sl (st115.get 0 rfl)) ?_)
          refine sx rfl (stp_lss rfl rfl ?_)
          refine sx_nil ?_
          refine sx_if rfl (fun h117 => ?_) (fun h117 => ?_)
          · skip
            have h117p := of_decide_eq_true h117
            refine wp_skip ?_
            refine wp_seq ?_
            refine wp_block ?_
            refine sx_region ?_
            refine sx rfl (stp_move (v := .string (saidB (deedW d.kind) ((lineNums d).take i))) hs116_5 ?_)
            refine sx rfl (stp_sadd rfl rfl (by simp only [ByteArray.size_append, bsz, List.size_toArray, List.length_cons, List.length_nil]; omega) ?_)
            refine sx rfl (stp_move (v := v107) hs116_3 ?_)
            refine sx rfl (stp_move (v := I (i : Int)) hs116_6 ?_)
            have hi01093 : i < (lineNums d).length := (by omega)
            have hq_ := idx (row_Sl (st115.get 0 rfl)) (i := i) hi01093
            obtain ⟨b118, o118, cs118, f118, hp118, hr118, hc118, hm118⟩ := hq_
            have hk118 := hc118
            obtain ⟨rfl, rfl, hok118⟩ := hk118
            refine sx rfl (stp_indexAddr sl_IntS rfl hp118 rfl rfl ?_)
            have hik := h64 _ (List.getElem_mem (l := lineNums d) (n := i) (by omega))
            simp only [I64] at hik
            have hiz := itoaB_size (z := ((lineNums d)[i]'(by omega))) (by omega)
            refine sx rfl (stp_load_rg ld_int rfl rfl hr118 (Below.refl _ _) (i := 0) rfl rfl ?_)
            refine sx rfl (stp_call1 Tryd.func24 rfl rfl ((DecimalS W113 ((lineNums d)[i]'hi01093) (by omega)).mono ?_)); rintro _ W119 ⟨rfl, hk120⟩; refine ⟨_, rfl, ?_⟩
            have st121 := St.call st115 hk120
            refine sx rfl (stp_sadd rfl rfl (by simp only [ByteArray.size_append, bsz, List.size_toArray, List.length_cons, List.length_nil]; omega) ?_)
            refine sx rfl (stp_assign (v := .string (((saidB (deedW d.kind) ((lineNums d).take i)) ++ (⟨#[32]⟩ : ByteArray)) ++ (itoaB ((lineNums d)[i]'hi01093)))) rfl ?_)
            refine sx_nil ?_
            refine sx_region ?_
            refine sx rfl (stp_move (v := I (i : Int)) hs116_6 ?_)
            refine sx rfl (stp_add rfl rfl (by (simp only [I64] at *; omega)) ?_)
            refine sx rfl (stp_assign (v := I ((i : Int) + 1)) rfl ?_)
            refine sx_nil ?_
            exact ⟨_, (lineNums d).length - (i + 1), (by omega), rfl, i + 1, (by omega), rfl, hs116_1, hs116_3, (Eq.trans (show _ = (.string (((saidB (deedW d.kind) ((lineNums d).take i)) ++ (⟨#[32]⟩ : ByteArray)) ++ (itoaB ((lineNums d)[i]'hi01093))) : Value) from rfl) (congrArg Value.string (by rw [saidB_step (by omega)]; apply ByteArray.ext; simp))), rfl, st121⟩
          · skip
            have h117p := of_decide_eq_false h117
            refine wp_exit ?_
            refine wp_seq ?_
            refine wp_seq ?_
            refine sx_region ?_
            refine sx rfl (stp_assign (v := I 0) rfl ?_)
            refine sx_nil ?_
            refine wp_block ?_
            refine sx_loop (fun (m : Nat) (f : Nat → Value) (W : World) => ∃ (k : Nat), k ≤ d.plan.edges.length ∧ m = d.plan.edges.length - k ∧ f 1 = .pointer (some ⟨b1, 0, none⟩) ∧ f 5 = .string (edgesB (saidB (deedW d.kind) (lineNums d)) (d.plan.edges.take k)) ∧ f 7 = I (k : Int) ∧ St w W ([Res.row (α := Int) 3 v107 (lineNums d) [], Res.row (α := ByteArray) 9 (.slice (some ⟨b16, 0, none⟩) 9 9) ([(⟨#[]⟩ : ByteArray), (⟨#[115, 117, 98, 109, 105, 116]⟩ : ByteArray), (⟨#[112, 111, 108, 108]⟩ : ByteArray), (⟨#[100, 111, 110, 101]⟩ : ByteArray), (⟨#[102, 97, 105, 108]⟩ : ByteArray), (⟨#[116, 105, 99, 107]⟩ : ByteArray), (⟨#[99, 97, 110, 99, 101, 108]⟩ : ByteArray), (⟨#[102, 111, 114, 103, 101, 116]⟩ : ByteArray), (⟨#[115, 116, 97, 114, 116]⟩ : ByteArray)]) [], Res.bx b1 [I d.kind, I d.run, I d.plan.prio, I d.plan.most, I d.plan.wait, I d.plan.tasks, v21_0, I d.task, I d.try_, I d.worker, I d.draw] 50])) (d.plan.edges.length - 0) ?_ ?_
            · exact ⟨0, (by omega), rfl, hs116_1, (Eq.trans (show _ = (.string (saidB (deedW d.kind) ((lineNums d).take i)) : Value) from hs116_5) (congrArg Value.string (by rw [show i = (lineNums d).length by omega, List.take_length]; rfl))), rfl, st115⟩
            intro m123 f124 W125 hJ126
            obtain ⟨k, hk, rfl, hs128_1, hs128_5, hs128_7, st127⟩ := hJ126
            have hes := edgesB_size (s := (saidB (deedW d.kind) (lineNums d))) (es := d.plan.edges.take k) (fun e he => hed e (List.mem_of_mem_take he))
            have hws := deedW_size d.kind
            have htl := List.length_take_le k d.plan.edges
            have hss := saidB_size (word := deedW d.kind) (l := (lineNums d)) h64
            refine wp_seq ?_
            refine wp_seq ?_
            refine sx_region ?_
            refine sx rfl (stp_move (v := I (k : Int)) hs128_7 ?_)
            refine sx rfl (stp_fieldAddr fa_Deed_2 hs128_1 ?_)
            refine sx rfl (stp_fieldAddr fa_Plan_4 rfl ?_)
            refine sx rfl (stp_load_bx ld_EdgeS rfl rfl (st127.get 2 rfl) (i := 6) rfl rfl ?_)
            refine sx rfl (stp_len sl_EdgeS rfl h21_0 ?_)
            refine sx rfl (stp_lss rfl rfl ?_)
            refine sx_nil ?_
            refine sx_if rfl (fun h129 => ?_) (fun h129 => ?_)
            · skip
              have h129p := of_decide_eq_true h129
              refine wp_skip ?_
              refine wp_seq ?_
              refine wp_block ?_
              have hi86a04 : k < d.plan.edges.length := (by omega)
              have hq_ := idx h21_0 (i := k) hi86a04
              obtain ⟨b130, o130, cs130, f130, hp130, hr130, hc130, hm130⟩ := hq_
              have hk131 := hc130
              obtain ⟨he131, rfl, hok131⟩ := hk131
              have he131 : _ = [I (d.plan.edges[k]'hi86a04).from_, I (d.plan.edges[k]'hi86a04).to_] := he131
              subst he131
              have hek := hed _ (List.getElem_mem (l := d.plan.edges) (n := k) (by omega))
              simp only [Edge.ok, I64] at hek
              have hz1 := itoaB_size (z := (d.plan.edges[k]'(by omega)).from_) (by omega)
              have hz2 := itoaB_size (z := (d.plan.edges[k]'(by omega)).to_) (by omega)
              refine sx_any [Pl.is (.string (edgesB (saidB (deedW d.kind) (lineNums d)) (d.plan.edges.take k))), Pl.is (.string ((edgesB (saidB (deedW d.kind) (lineNums d)) (d.plan.edges.take k)) ++ (⟨#[32]⟩ : ByteArray))), Pl.is (.pointer (some ⟨b1, 0 + 2, none⟩)), Pl.is (.pointer (some ⟨b1, 0 + 2 + 4, none⟩)), Pl.is (v21_0) (Sl.yl h21_0), Pl.is (I (k : Int)), Pl.is (.pointer (some ⟨b130, o130, none⟩)), Pl.is (.pointer (some ⟨b130, o130 + 0, none⟩)), Pl.is (I (d.plan.edges[k]'hi86a04).from_), Pl.is (.string (itoaB (d.plan.edges[k]'hi86a04).from_)), Pl.is (.string (((edgesB (saidB (deedW d.kind) (lineNums d)) (d.plan.edges.take k)) ++ (⟨#[32]⟩ : ByteArray)) ++ (itoaB (d.plan.edges[k]'hi86a04).from_))), Pl.is (.string ((((edgesB (saidB (deedW d.kind) (lineNums d)) (d.plan.edges.take k)) ++ (⟨#[32]⟩ : ByteArray)) ++ (itoaB (d.plan.edges[k]'hi86a04).from_)) ++ (⟨#[62]⟩ : ByteArray))), Pl.is (.pointer (some ⟨b1, 0 + 2, none⟩)), Pl.is (.pointer (some ⟨b1, 0 + 2 + 4, none⟩)), Pl.is (v21_0) (Sl.yl h21_0), Pl.is (I (k : Int)), Pl.is (.pointer (some ⟨b130, o130, none⟩)), Pl.is (.pointer (some ⟨b130, o130 + 1, none⟩)), Pl.is (I (d.plan.edges[k]'hi86a04).to_), Pl.is (.string (itoaB (d.plan.edges[k]'hi86a04).to_)), Pl.is (.string (((((edgesB (saidB (deedW d.kind) (lineNums d)) (d.plan.edges.take k)) ++ (⟨#[32]⟩ : ByteArray)) ++ (itoaB (d.plan.edges[k]'hi86a04).from_)) ++ (⟨#[62]⟩ : ByteArray)) ++ (itoaB (d.plan.edges[k]'hi86a04).to_))), Pl.is (.string (((((edgesB (saidB (deedW d.kind) (lineNums d)) (d.plan.edges.take k)) ++ (⟨#[32]⟩ : ByteArray)) ++ (itoaB (d.plan.edges[k]'hi86a04).from_)) ++ (⟨#[62]⟩ : ByteArray)) ++ (itoaB (d.plan.edges[k]'hi86a04).to_)))] mix (by rfl) st127 ⟨(fun f W hst hbl hd hf => stp_move (v := .string (edgesB (saidB (deedW d.kind) (lineNums d)) (d.plan.edges.take k))) ((hf 5 rfl).trans hs128_5) ⟨Below.refl _ _, rfl⟩), (fun f W hst hbl hd hf => stp_sadd (hd 0 90 rfl rfl) rfl (by simp only [ByteArray.size_append, bsz, List.size_toArray, List.length_cons, List.length_nil]; omega) ⟨Below.refl _ _, rfl⟩), (fun f W hst hbl hd hf => stp_fieldAddr fa_Deed_2 ((hf 1 rfl).trans hs128_1) ⟨Below.refl _ _, rfl⟩), (fun f W hst hbl hd hf => stp_fieldAddr fa_Plan_4 (hd 2 92 rfl rfl) ⟨Below.refl _ _, rfl⟩), (fun f W hst hbl hd hf => stp_load_bx ld_EdgeS rfl (hd 3 93 rfl rfl) (hst.get 2 rfl) (i := 6) rfl rfl ⟨Below.refl _ _, rfl⟩), (fun f W hst hbl hd hf => stp_move (v := I (k : Int)) ((hf 7 rfl).trans hs128_7) ⟨Below.refl _ _, rfl⟩), (fun f W hst hbl hd hf => stp_indexAddr sl_EdgeS (hd 4 94 rfl rfl) hp130 (hd 5 95 rfl rfl) rfl ⟨Below.refl _ _, rfl⟩), (fun f W hst hbl hd hf => stp_fieldAddr fa_Edge_0 (hd 6 96 rfl rfl) ⟨Below.refl _ _, rfl⟩), (fun f W hst hbl hd hf => stp_load_rg ld_int rfl (hd 7 97 rfl rfl) hr130 hst.below (i := 0) rfl rfl ⟨Below.refl _ _, rfl⟩), (fun f W hst hbl hd hf => stp_call1 Tryd.func24 rfl (hd 8 98 rfl rfl) ((DecimalS W (d.plan.edges[k]'hi86a04).from_ (by omega)).mono (by rintro e W2 ⟨rfl, hk⟩; exact ⟨_, rfl, hk.below, rfl⟩))), (fun f W hst hbl hd hf => stp_sadd (hd 1 91 rfl rfl) (hd 9 99 rfl rfl) (by simp only [ByteArray.size_append, bsz, List.size_toArray, List.length_cons, List.length_nil]; omega) ⟨Below.refl _ _, rfl⟩), (fun f W hst hbl hd hf => stp_sadd (hd 10 100 rfl rfl) rfl (by simp only [ByteArray.size_append, bsz, List.size_toArray, List.length_cons, List.length_nil]; omega) ⟨Below.refl _ _, rfl⟩), (fun f W hst hbl hd hf => stp_fieldAddr fa_Deed_2 ((hf 1 rfl).trans hs128_1) ⟨Below.refl _ _, rfl⟩), (fun f W hst hbl hd hf => stp_fieldAddr fa_Plan_4 (hd 12 102 rfl rfl) ⟨Below.refl _ _, rfl⟩), (fun f W hst hbl hd hf => stp_load_bx ld_EdgeS rfl (hd 13 103 rfl rfl) (hst.get 2 rfl) (i := 6) rfl rfl ⟨Below.refl _ _, rfl⟩), (fun f W hst hbl hd hf => stp_move (v := I (k : Int)) ((hf 7 rfl).trans hs128_7) ⟨Below.refl _ _, rfl⟩), (fun f W hst hbl hd hf => stp_indexAddr sl_EdgeS (hd 14 104 rfl rfl) hp130 (hd 15 105 rfl rfl) rfl ⟨Below.refl _ _, rfl⟩), (fun f W hst hbl hd hf => stp_fieldAddr fa_Edge_1 (hd 16 106 rfl rfl) ⟨Below.refl _ _, rfl⟩), (fun f W hst hbl hd hf => stp_load_rg ld_int rfl (hd 17 107 rfl rfl) hr130 hst.below (i := 1) rfl rfl ⟨Below.refl _ _, rfl⟩), (fun f W hst hbl hd hf => stp_call1 Tryd.func24 rfl (hd 18 108 rfl rfl) ((DecimalS W (d.plan.edges[k]'hi86a04).to_ (by omega)).mono (by rintro e W2 ⟨rfl, hk⟩; exact ⟨_, rfl, hk.below, rfl⟩))), (fun f W hst hbl hd hf => stp_sadd (hd 11 101 rfl rfl) (hd 19 109 rfl rfl) (by simp only [ByteArray.size_append, bsz, List.size_toArray, List.length_cons, List.length_nil]; omega) ⟨Below.refl _ _, rfl⟩), (fun f W hst hbl hd hf => stp_assign (v := .string (((((edgesB (saidB (deedW d.kind) (lineNums d)) (d.plan.edges.take k)) ++ (⟨#[32]⟩ : ByteArray)) ++ (itoaB (d.plan.edges[k]'hi86a04).from_)) ++ (⟨#[62]⟩ : ByteArray)) ++ (itoaB (d.plan.edges[k]'hi86a04).to_))) (hd 20 110 rfl rfl) ⟨Below.refl _ _, rfl⟩), trivial⟩ ?_
              intro f132 W133 st134 hb135 hv136 hf137
              refine sx_region ?_
              refine sx rfl (stp_move (v := I (k : Int)) ((hf137 7 rfl).trans hs128_7) ?_)
              refine sx rfl (stp_add rfl rfl (by (simp only [I64] at *; omega)) ?_)
              refine sx rfl (stp_assign (v := I ((k : Int) + 1)) rfl ?_)
              refine sx_nil ?_
              exact ⟨_, d.plan.edges.length - (k + 1), (by omega), rfl, k + 1, (by omega), rfl, ((hf137 1 rfl).trans hs128_1), (Eq.trans (show _ = (.string (((((edgesB (saidB (deedW d.kind) (lineNums d)) (d.plan.edges.take k)) ++ (⟨#[32]⟩ : ByteArray)) ++ (itoaB (d.plan.edges[k]'hi86a04).from_)) ++ (⟨#[62]⟩ : ByteArray)) ++ (itoaB (d.plan.edges[k]'hi86a04).to_)) : Value) from (hv136 21 5 (by decide) rfl)) (congrArg Value.string (by rw [edgesB_step (by omega), edgeB]; apply ByteArray.ext; simp))), rfl, st134⟩
            · skip
              have h129p := of_decide_eq_false h129
              refine wp_exit ?_
              refine wp_seq ?_
              refine sx_region ?_
              refine sx rfl (stp_move (v := .string (edgesB (saidB (deedW d.kind) (lineNums d)) (d.plan.edges.take k))) hs128_5 ?_)
              refine sx rfl (stp_assign (v := .string (edgesB (saidB (deedW d.kind) (lineNums d)) (d.plan.edges.take k))) rfl ?_)
              refine sx_nil ?_
              refine wp_ret ?_; repeat (first | refine then_ret ?_ | refine blk_ret ?_)
              refine ret1 Tryd.results16 rfl ?_
              obtain rfl : k = d.plan.edges.length := by omega
              exact ⟨(congrArg (fun z => Ending.returned (.string z)) (by unfold deedLine; rw [(bnot_f h10), if_pos rfl, List.take_length])), st127.bare⟩
        · skip
          have h100p := of_decide_eq_false h100
          refine sx_region ?_
          refine sx rfl (stp_eql rfl rfl ?_)
          refine sx rfl (stp_assign (v := .bool (decide (d.kind = 4))) rfl ?_)
          refine sx_nil ?_
          refine sx_if rfl (fun h138 => ?_) (fun h138 => ?_)
          · skip
            have h138p := of_decide_eq_true h138
            refine sx_region ?_
            refine sx rfl (stp_move (v := (.slice (some ⟨b11, 0, none⟩) 0 0)) rfl ?_)
            refine sx rfl (stp_fieldAddr fa_Deed_1 rfl ?_)
            refine sx rfl (stp_load_bx ld_int rfl rfl (st22.get 2 rfl) (i := 1) rfl rfl ?_)
            refine sx rfl (stp_fieldAddr fa_Deed_3 rfl ?_)
            refine sx rfl (stp_load_bx ld_int rfl rfl (st22.get 2 rfl) (i := 7) rfl rfl ?_)
            refine sx rfl (stp_fieldAddr fa_Deed_4 rfl ?_)
            refine sx rfl (stp_load_bx ld_int rfl rfl (st22.get 2 rfl) (i := 8) rfl rfl ?_)
            refine sx rfl (stp_buildSlice (cs := [I d.run, I d.task, I d.try_]) (e := 3) (pcons (v := I d.run) rfl (pcons (v := I d.task) rfl (pcons (v := I d.try_) rfl pnil))) (run_buildSliceN ap_IntS _ rfl (lc_cons rfl (lc_cons rfl (lc_cons rfl lc_nil)))) st22 ?_); intro b139 W140 hb141 st142
            have st144 := st142.f2
            refine sx rfl (stp_append_bx (ys := [d.run, d.task, d.try_]) ap_IntS rfl rfl rfl st144 (Elems.ic (by simp only [I64]; omega) (Elems.ic (by simp only [I64]; omega) (Elems.ic (by simp only [I64]; omega) Elems.i0))) (by simp only [List.length_nil, List.length_cons, maxLen]; omega) (by simp only [List.length_nil, List.length_cons]; omega) ?_); intro v145 W146 st147
            refine sx rfl (stp_assign (v := v145) rfl ?_)
            refine sx_nil ?_
            refine wp_seq ?_
            refine sx_region ?_
            have hlist : [] ++ [d.run, d.task, d.try_] = (lineNums d) := by unfold lineNums deedNums; first | rw [if_pos (by omega)]; rfl | (rw [if_neg (by omega), if_neg (by omega)]; first | (rw [if_pos (by omega)]; rfl) | (rw [if_neg (by omega), if_pos (by omega)]; rfl) | (rw [if_neg (by omega), if_neg (by omega), if_pos (by omega)]; rfl) | (rw [if_neg (by omega), if_neg (by omega), if_neg (by omega)]))
            have st148 := st147; rw [hlist] at st148
            skip
            refine sx rfl (stp_move (v := .string (([(⟨#[]⟩ : ByteArray), (⟨#[115, 117, 98, 109, 105, 116]⟩ : ByteArray), (⟨#[112, 111, 108, 108]⟩ : ByteArray), (⟨#[100, 111, 110, 101]⟩ : ByteArray), (⟨#[102, 97, 105, 108]⟩ : ByteArray), (⟨#[116, 105, 99, 107]⟩ : ByteArray), (⟨#[99, 97, 110, 99, 101, 108]⟩ : ByteArray), (⟨#[102, 111, 114, 103, 101, 116]⟩ : ByteArray), (⟨#[115, 116, 97, 114, 116]⟩ : ByteArray)])[(d.kind).toNat]'hic1759)) rfl ?_)
            refine sx rfl (stp_assign (v := .string (([(⟨#[]⟩ : ByteArray), (⟨#[115, 117, 98, 109, 105, 116]⟩ : ByteArray), (⟨#[112, 111, 108, 108]⟩ : ByteArray), (⟨#[100, 111, 110, 101]⟩ : ByteArray), (⟨#[102, 97, 105, 108]⟩ : ByteArray), (⟨#[116, 105, 99, 107]⟩ : ByteArray), (⟨#[99, 97, 110, 99, 101, 108]⟩ : ByteArray), (⟨#[102, 111, 114, 103, 101, 116]⟩ : ByteArray), (⟨#[115, 116, 97, 114, 116]⟩ : ByteArray)])[(d.kind).toNat]'hic1759)) rfl ?_)
            refine sx_nil ?_
            refine wp_seq ?_
            refine wp_seq ?_
            refine sx_region ?_
            refine sx rfl (stp_assign (v := I 0) rfl ?_)
            refine sx_nil ?_
            refine wp_block ?_
            refine sx_loop (fun (m : Nat) (f : Nat → Value) (W : World) => ∃ (i : Nat), i ≤ (lineNums d).length ∧ m = (lineNums d).length - i ∧ f 1 = .pointer (some ⟨b1, 0, none⟩) ∧ f 3 = v145 ∧ f 5 = .string (saidB (deedW d.kind) ((lineNums d).take i)) ∧ f 6 = I (i : Int) ∧ St w W ([Res.row (α := Int) 3 v145 (lineNums d) [], Res.row (α := ByteArray) 9 (.slice (some ⟨b16, 0, none⟩) 9 9) ([(⟨#[]⟩ : ByteArray), (⟨#[115, 117, 98, 109, 105, 116]⟩ : ByteArray), (⟨#[112, 111, 108, 108]⟩ : ByteArray), (⟨#[100, 111, 110, 101]⟩ : ByteArray), (⟨#[102, 97, 105, 108]⟩ : ByteArray), (⟨#[116, 105, 99, 107]⟩ : ByteArray), (⟨#[99, 97, 110, 99, 101, 108]⟩ : ByteArray), (⟨#[102, 111, 114, 103, 101, 116]⟩ : ByteArray), (⟨#[115, 116, 97, 114, 116]⟩ : ByteArray)]) [], Res.bx b1 [I d.kind, I d.run, I d.plan.prio, I d.plan.most, I d.plan.wait, I d.plan.tasks, v21_0, I d.task, I d.try_, I d.worker, I d.draw] 50])) ((lineNums d).length - 0) ?_ ?_
            · exact ⟨0, (by omega), rfl, rfl, rfl, (Eq.trans (show _ = (.string (([(⟨#[]⟩ : ByteArray), (⟨#[115, 117, 98, 109, 105, 116]⟩ : ByteArray), (⟨#[112, 111, 108, 108]⟩ : ByteArray), (⟨#[100, 111, 110, 101]⟩ : ByteArray), (⟨#[102, 97, 105, 108]⟩ : ByteArray), (⟨#[116, 105, 99, 107]⟩ : ByteArray), (⟨#[99, 97, 110, 99, 101, 108]⟩ : ByteArray), (⟨#[102, 111, 114, 103, 101, 116]⟩ : ByteArray), (⟨#[115, 116, 97, 114, 116]⟩ : ByteArray)])[(d.kind).toNat]'hic1759) : Value) from rfl) (congrArg Value.string (deedW_S (by omega) _))), rfl, st148⟩
            intro m149 f150 W151 hJ152
            obtain ⟨i, hi, rfl, hs154_1, hs154_3, hs154_5, hs154_6, st153⟩ := hJ152
            have hss := saidB_size (word := deedW d.kind) (l := (lineNums d).take i) (fun n hn => h64 n (List.mem_of_mem_take hn))
            have htl := List.length_take_le i (lineNums d)
            have hws := deedW_size d.kind
            refine wp_seq ?_
            refine wp_seq ?_
            refine sx_region ?_
            refine sx rfl (stp_move (v := I (i : Int)) hs154_6 ?_)
            refine sx rfl (stp_move (v := v145) hs154_3 ?_)
            refine sx rfl (stp_len sl_IntS rfl (row_Sl (st153.get 0 rfl)) ?_)
            refine sx rfl (stp_lss rfl rfl ?_)
            refine sx_nil ?_
            refine sx_if rfl (fun h155 => ?_) (fun h155 => ?_)
            · skip
              have h155p := of_decide_eq_true h155
              refine wp_skip ?_
              refine wp_seq ?_
              refine wp_block ?_
              refine sx_region ?_
              refine sx rfl (stp_move (v := .string (saidB (deedW d.kind) ((lineNums d).take i))) hs154_5 ?_)
              refine sx rfl (stp_sadd rfl rfl (by simp only [ByteArray.size_append, bsz, List.size_toArray, List.length_cons, List.length_nil]; omega) ?_)
              refine sx rfl (stp_move (v := v145) hs154_3 ?_)
              refine sx rfl (stp_move (v := I (i : Int)) hs154_6 ?_)
              have hi01093 : i < (lineNums d).length := (by omega)
              have hq_ := idx (row_Sl (st153.get 0 rfl)) (i := i) hi01093
              obtain ⟨b156, o156, cs156, f156, hp156, hr156, hc156, hm156⟩ := hq_
              have hk156 := hc156
              obtain ⟨rfl, rfl, hok156⟩ := hk156
              refine sx rfl (stp_indexAddr sl_IntS rfl hp156 rfl rfl ?_)
              have hik := h64 _ (List.getElem_mem (l := lineNums d) (n := i) (by omega))
              simp only [I64] at hik
              have hiz := itoaB_size (z := ((lineNums d)[i]'(by omega))) (by omega)
              refine sx rfl (stp_load_rg ld_int rfl rfl hr156 (Below.refl _ _) (i := 0) rfl rfl ?_)
              refine sx rfl (stp_call1 Tryd.func24 rfl rfl ((DecimalS W151 ((lineNums d)[i]'hi01093) (by omega)).mono ?_)); rintro _ W157 ⟨rfl, hk158⟩; refine ⟨_, rfl, ?_⟩
              have st159 := St.call st153 hk158
              refine sx rfl (stp_sadd rfl rfl (by simp only [ByteArray.size_append, bsz, List.size_toArray, List.length_cons, List.length_nil]; omega) ?_)
              refine sx rfl (stp_assign (v := .string (((saidB (deedW d.kind) ((lineNums d).take i)) ++ (⟨#[32]⟩ : ByteArray)) ++ (itoaB ((lineNums d)[i]'hi01093)))) rfl ?_)
              refine sx_nil ?_
              refine sx_region ?_
              refine sx rfl (stp_move (v := I (i : Int)) hs154_6 ?_)
              refine sx rfl (stp_add rfl rfl (by (simp only [I64] at *; omega)) ?_)
              refine sx rfl (stp_assign (v := I ((i : Int) + 1)) rfl ?_)
              refine sx_nil ?_
              exact ⟨_, (lineNums d).length - (i + 1), (by omega), rfl, i + 1, (by omega), rfl, hs154_1, hs154_3, (Eq.trans (show _ = (.string (((saidB (deedW d.kind) ((lineNums d).take i)) ++ (⟨#[32]⟩ : ByteArray)) ++ (itoaB ((lineNums d)[i]'hi01093))) : Value) from rfl) (congrArg Value.string (by rw [saidB_step (by omega)]; apply ByteArray.ext; simp))), rfl, st159⟩
            · skip
              have h155p := of_decide_eq_false h155
              refine wp_exit ?_
              refine wp_seq ?_
              refine wp_seq ?_
              refine sx_region ?_
              refine sx rfl (stp_assign (v := I 0) rfl ?_)
              refine sx_nil ?_
              refine wp_block ?_
              refine sx_loop (fun (m : Nat) (f : Nat → Value) (W : World) => ∃ (k : Nat), k ≤ d.plan.edges.length ∧ m = d.plan.edges.length - k ∧ f 1 = .pointer (some ⟨b1, 0, none⟩) ∧ f 5 = .string (edgesB (saidB (deedW d.kind) (lineNums d)) (d.plan.edges.take k)) ∧ f 7 = I (k : Int) ∧ St w W ([Res.row (α := Int) 3 v145 (lineNums d) [], Res.row (α := ByteArray) 9 (.slice (some ⟨b16, 0, none⟩) 9 9) ([(⟨#[]⟩ : ByteArray), (⟨#[115, 117, 98, 109, 105, 116]⟩ : ByteArray), (⟨#[112, 111, 108, 108]⟩ : ByteArray), (⟨#[100, 111, 110, 101]⟩ : ByteArray), (⟨#[102, 97, 105, 108]⟩ : ByteArray), (⟨#[116, 105, 99, 107]⟩ : ByteArray), (⟨#[99, 97, 110, 99, 101, 108]⟩ : ByteArray), (⟨#[102, 111, 114, 103, 101, 116]⟩ : ByteArray), (⟨#[115, 116, 97, 114, 116]⟩ : ByteArray)]) [], Res.bx b1 [I d.kind, I d.run, I d.plan.prio, I d.plan.most, I d.plan.wait, I d.plan.tasks, v21_0, I d.task, I d.try_, I d.worker, I d.draw] 50])) (d.plan.edges.length - 0) ?_ ?_
              · exact ⟨0, (by omega), rfl, hs154_1, (Eq.trans (show _ = (.string (saidB (deedW d.kind) ((lineNums d).take i)) : Value) from hs154_5) (congrArg Value.string (by rw [show i = (lineNums d).length by omega, List.take_length]; rfl))), rfl, st153⟩
              intro m161 f162 W163 hJ164
              obtain ⟨k, hk, rfl, hs166_1, hs166_5, hs166_7, st165⟩ := hJ164
              have hes := edgesB_size (s := (saidB (deedW d.kind) (lineNums d))) (es := d.plan.edges.take k) (fun e he => hed e (List.mem_of_mem_take he))
              have hws := deedW_size d.kind
              have htl := List.length_take_le k d.plan.edges
              have hss := saidB_size (word := deedW d.kind) (l := (lineNums d)) h64
              refine wp_seq ?_
              refine wp_seq ?_
              refine sx_region ?_
              refine sx rfl (stp_move (v := I (k : Int)) hs166_7 ?_)
              refine sx rfl (stp_fieldAddr fa_Deed_2 hs166_1 ?_)
              refine sx rfl (stp_fieldAddr fa_Plan_4 rfl ?_)
              refine sx rfl (stp_load_bx ld_EdgeS rfl rfl (st165.get 2 rfl) (i := 6) rfl rfl ?_)
              refine sx rfl (stp_len sl_EdgeS rfl h21_0 ?_)
              refine sx rfl (stp_lss rfl rfl ?_)
              refine sx_nil ?_
              refine sx_if rfl (fun h167 => ?_) (fun h167 => ?_)
              · skip
                have h167p := of_decide_eq_true h167
                refine wp_skip ?_
                refine wp_seq ?_
                refine wp_block ?_
                have hi86a04 : k < d.plan.edges.length := (by omega)
                have hq_ := idx h21_0 (i := k) hi86a04
                obtain ⟨b168, o168, cs168, f168, hp168, hr168, hc168, hm168⟩ := hq_
                have hk169 := hc168
                obtain ⟨he169, rfl, hok169⟩ := hk169
                have he169 : _ = [I (d.plan.edges[k]'hi86a04).from_, I (d.plan.edges[k]'hi86a04).to_] := he169
                subst he169
                have hek := hed _ (List.getElem_mem (l := d.plan.edges) (n := k) (by omega))
                simp only [Edge.ok, I64] at hek
                have hz1 := itoaB_size (z := (d.plan.edges[k]'(by omega)).from_) (by omega)
                have hz2 := itoaB_size (z := (d.plan.edges[k]'(by omega)).to_) (by omega)
                refine sx_any [Pl.is (.string (edgesB (saidB (deedW d.kind) (lineNums d)) (d.plan.edges.take k))), Pl.is (.string ((edgesB (saidB (deedW d.kind) (lineNums d)) (d.plan.edges.take k)) ++ (⟨#[32]⟩ : ByteArray))), Pl.is (.pointer (some ⟨b1, 0 + 2, none⟩)), Pl.is (.pointer (some ⟨b1, 0 + 2 + 4, none⟩)), Pl.is (v21_0) (Sl.yl h21_0), Pl.is (I (k : Int)), Pl.is (.pointer (some ⟨b168, o168, none⟩)), Pl.is (.pointer (some ⟨b168, o168 + 0, none⟩)), Pl.is (I (d.plan.edges[k]'hi86a04).from_), Pl.is (.string (itoaB (d.plan.edges[k]'hi86a04).from_)), Pl.is (.string (((edgesB (saidB (deedW d.kind) (lineNums d)) (d.plan.edges.take k)) ++ (⟨#[32]⟩ : ByteArray)) ++ (itoaB (d.plan.edges[k]'hi86a04).from_))), Pl.is (.string ((((edgesB (saidB (deedW d.kind) (lineNums d)) (d.plan.edges.take k)) ++ (⟨#[32]⟩ : ByteArray)) ++ (itoaB (d.plan.edges[k]'hi86a04).from_)) ++ (⟨#[62]⟩ : ByteArray))), Pl.is (.pointer (some ⟨b1, 0 + 2, none⟩)), Pl.is (.pointer (some ⟨b1, 0 + 2 + 4, none⟩)), Pl.is (v21_0) (Sl.yl h21_0), Pl.is (I (k : Int)), Pl.is (.pointer (some ⟨b168, o168, none⟩)), Pl.is (.pointer (some ⟨b168, o168 + 1, none⟩)), Pl.is (I (d.plan.edges[k]'hi86a04).to_), Pl.is (.string (itoaB (d.plan.edges[k]'hi86a04).to_)), Pl.is (.string (((((edgesB (saidB (deedW d.kind) (lineNums d)) (d.plan.edges.take k)) ++ (⟨#[32]⟩ : ByteArray)) ++ (itoaB (d.plan.edges[k]'hi86a04).from_)) ++ (⟨#[62]⟩ : ByteArray)) ++ (itoaB (d.plan.edges[k]'hi86a04).to_))), Pl.is (.string (((((edgesB (saidB (deedW d.kind) (lineNums d)) (d.plan.edges.take k)) ++ (⟨#[32]⟩ : ByteArray)) ++ (itoaB (d.plan.edges[k]'hi86a04).from_)) ++ (⟨#[62]⟩ : ByteArray)) ++ (itoaB (d.plan.edges[k]'hi86a04).to_)))] mix (by rfl) st165 ⟨(fun f W hst hbl hd hf => stp_move (v := .string (edgesB (saidB (deedW d.kind) (lineNums d)) (d.plan.edges.take k))) ((hf 5 rfl).trans hs166_5) ⟨Below.refl _ _, rfl⟩), (fun f W hst hbl hd hf => stp_sadd (hd 0 90 rfl rfl) rfl (by simp only [ByteArray.size_append, bsz, List.size_toArray, List.length_cons, List.length_nil]; omega) ⟨Below.refl _ _, rfl⟩), (fun f W hst hbl hd hf => stp_fieldAddr fa_Deed_2 ((hf 1 rfl).trans hs166_1) ⟨Below.refl _ _, rfl⟩), (fun f W hst hbl hd hf => stp_fieldAddr fa_Plan_4 (hd 2 92 rfl rfl) ⟨Below.refl _ _, rfl⟩), (fun f W hst hbl hd hf => stp_load_bx ld_EdgeS rfl (hd 3 93 rfl rfl) (hst.get 2 rfl) (i := 6) rfl rfl ⟨Below.refl _ _, rfl⟩), (fun f W hst hbl hd hf => stp_move (v := I (k : Int)) ((hf 7 rfl).trans hs166_7) ⟨Below.refl _ _, rfl⟩), (fun f W hst hbl hd hf => stp_indexAddr sl_EdgeS (hd 4 94 rfl rfl) hp168 (hd 5 95 rfl rfl) rfl ⟨Below.refl _ _, rfl⟩), (fun f W hst hbl hd hf => stp_fieldAddr fa_Edge_0 (hd 6 96 rfl rfl) ⟨Below.refl _ _, rfl⟩), (fun f W hst hbl hd hf => stp_load_rg ld_int rfl (hd 7 97 rfl rfl) hr168 hst.below (i := 0) rfl rfl ⟨Below.refl _ _, rfl⟩), (fun f W hst hbl hd hf => stp_call1 Tryd.func24 rfl (hd 8 98 rfl rfl) ((DecimalS W (d.plan.edges[k]'hi86a04).from_ (by omega)).mono (by rintro e W2 ⟨rfl, hk⟩; exact ⟨_, rfl, hk.below, rfl⟩))), (fun f W hst hbl hd hf => stp_sadd (hd 1 91 rfl rfl) (hd 9 99 rfl rfl) (by simp only [ByteArray.size_append, bsz, List.size_toArray, List.length_cons, List.length_nil]; omega) ⟨Below.refl _ _, rfl⟩), (fun f W hst hbl hd hf => stp_sadd (hd 10 100 rfl rfl) rfl (by simp only [ByteArray.size_append, bsz, List.size_toArray, List.length_cons, List.length_nil]; omega) ⟨Below.refl _ _, rfl⟩), (fun f W hst hbl hd hf => stp_fieldAddr fa_Deed_2 ((hf 1 rfl).trans hs166_1) ⟨Below.refl _ _, rfl⟩), (fun f W hst hbl hd hf => stp_fieldAddr fa_Plan_4 (hd 12 102 rfl rfl) ⟨Below.refl _ _, rfl⟩), (fun f W hst hbl hd hf => stp_load_bx ld_EdgeS rfl (hd 13 103 rfl rfl) (hst.get 2 rfl) (i := 6) rfl rfl ⟨Below.refl _ _, rfl⟩), (fun f W hst hbl hd hf => stp_move (v := I (k : Int)) ((hf 7 rfl).trans hs166_7) ⟨Below.refl _ _, rfl⟩), (fun f W hst hbl hd hf => stp_indexAddr sl_EdgeS (hd 14 104 rfl rfl) hp168 (hd 15 105 rfl rfl) rfl ⟨Below.refl _ _, rfl⟩), (fun f W hst hbl hd hf => stp_fieldAddr fa_Edge_1 (hd 16 106 rfl rfl) ⟨Below.refl _ _, rfl⟩), (fun f W hst hbl hd hf => stp_load_rg ld_int rfl (hd 17 107 rfl rfl) hr168 hst.below (i := 1) rfl rfl ⟨Below.refl _ _, rfl⟩), (fun f W hst hbl hd hf => stp_call1 Tryd.func24 rfl (hd 18 108 rfl rfl) ((DecimalS W (d.plan.edges[k]'hi86a04).to_ (by omega)).mono (by rintro e W2 ⟨rfl, hk⟩; exact ⟨_, rfl, hk.below, rfl⟩))), (fun f W hst hbl hd hf => stp_sadd (hd 11 101 rfl rfl) (hd 19 109 rfl rfl) (by simp only [ByteArray.size_append, bsz, List.size_toArray, List.length_cons, List.length_nil]; omega) ⟨Below.refl _ _, rfl⟩), (fun f W hst hbl hd hf => stp_assign (v := .string (((((edgesB (saidB (deedW d.kind) (lineNums d)) (d.plan.edges.take k)) ++ (⟨#[32]⟩ : ByteArray)) ++ (itoaB (d.plan.edges[k]'hi86a04).from_)) ++ (⟨#[62]⟩ : ByteArray)) ++ (itoaB (d.plan.edges[k]'hi86a04).to_))) (hd 20 110 rfl rfl) ⟨Below.refl _ _, rfl⟩), trivial⟩ ?_
                intro f170 W171 st172 hb173 hv174 hf175
                refine sx_region ?_
                refine sx rfl (stp_move (v := I (k : Int)) ((hf175 7 rfl).trans hs166_7) ?_)
                refine sx rfl (stp_add rfl rfl (by (simp only [I64] at *; omega)) ?_)
                refine sx rfl (stp_assign (v := I ((k : Int) + 1)) rfl ?_)
                refine sx_nil ?_
                exact ⟨_, d.plan.edges.length - (k + 1), (by omega), rfl, k + 1, (by omega), rfl, ((hf175 1 rfl).trans hs166_1), (Eq.trans (show _ = (.string (((((edgesB (saidB (deedW d.kind) (lineNums d)) (d.plan.edges.take k)) ++ (⟨#[32]⟩ : ByteArray)) ++ (itoaB (d.plan.edges[k]'hi86a04).from_)) ++ (⟨#[62]⟩ : ByteArray)) ++ (itoaB (d.plan.edges[k]'hi86a04).to_)) : Value) from (hv174 21 5 (by decide) rfl)) (congrArg Value.string (by rw [edgesB_step (by omega), edgeB]; apply ByteArray.ext; simp))), rfl, st172⟩
              · skip
                have h167p := of_decide_eq_false h167
                refine wp_exit ?_
                refine wp_seq ?_
                refine sx_region ?_
                refine sx rfl (stp_move (v := .string (edgesB (saidB (deedW d.kind) (lineNums d)) (d.plan.edges.take k))) hs166_5 ?_)
                refine sx rfl (stp_assign (v := .string (edgesB (saidB (deedW d.kind) (lineNums d)) (d.plan.edges.take k))) rfl ?_)
                refine sx_nil ?_
                refine wp_ret ?_; repeat (first | refine then_ret ?_ | refine blk_ret ?_)
                refine ret1 Tryd.results16 rfl ?_
                obtain rfl : k = d.plan.edges.length := by omega
                exact ⟨(congrArg (fun z => Ending.returned (.string z)) (by unfold deedLine; rw [(bnot_f h10), if_pos rfl, List.take_length])), st165.bare⟩
          · skip
            have h138p := of_decide_eq_false h138
            refine wp_seq ?_
            refine wp_seq ?_
            refine sx_region ?_
            refine sx rfl (stp_eql rfl rfl ?_)
            refine sx rfl (stp_assign (v := .bool (decide (d.kind = 6))) rfl ?_)
            refine sx_nil ?_
            refine sx_if rfl (fun h176 => ?_) (fun h176 => ?_)
            · skip
              have h176p := of_decide_eq_true h176
              refine wp_skip ?_
              refine sx_t rfl h176 ?_
              refine sx_region ?_
              refine sx rfl (stp_move (v := (.slice (some ⟨b11, 0, none⟩) 0 0)) rfl ?_)
              refine sx rfl (stp_fieldAddr fa_Deed_1 rfl ?_)
              refine sx rfl (stp_load_bx ld_int rfl rfl (st22.get 2 rfl) (i := 1) rfl rfl ?_)
              refine sx rfl (stp_buildSlice (cs := [I d.run]) (e := 3) (pcons (v := I d.run) rfl pnil) (run_buildSlice1 ap_IntS _ _ rfl rfl (by decide)) st22 ?_); intro b177 W178 hb179 st180
              have st182 := st180.f2
              refine sx rfl (stp_append_bx (ys := [d.run]) ap_IntS rfl rfl rfl st182 (Elems.ic (by simp only [I64]; omega) Elems.i0) (by simp only [List.length_nil, List.length_cons, maxLen]; omega) (by simp only [List.length_nil, List.length_cons]; omega) ?_); intro v183 W184 st185
              refine sx rfl (stp_assign (v := v183) rfl ?_)
              refine sx_nil ?_
              refine wp_seq ?_
              refine sx_region ?_
              have hlist : [] ++ [d.run] = (lineNums d) := by unfold lineNums deedNums; first | rw [if_pos (by omega)]; rfl | (rw [if_neg (by omega), if_neg (by omega)]; first | (rw [if_pos (by omega)]; rfl) | (rw [if_neg (by omega), if_pos (by omega)]; rfl) | (rw [if_neg (by omega), if_neg (by omega), if_pos (by omega)]; rfl) | (rw [if_neg (by omega), if_neg (by omega), if_neg (by omega)]))
              have st186 := st185; rw [hlist] at st186
              skip
              refine sx rfl (stp_move (v := .string (([(⟨#[]⟩ : ByteArray), (⟨#[115, 117, 98, 109, 105, 116]⟩ : ByteArray), (⟨#[112, 111, 108, 108]⟩ : ByteArray), (⟨#[100, 111, 110, 101]⟩ : ByteArray), (⟨#[102, 97, 105, 108]⟩ : ByteArray), (⟨#[116, 105, 99, 107]⟩ : ByteArray), (⟨#[99, 97, 110, 99, 101, 108]⟩ : ByteArray), (⟨#[102, 111, 114, 103, 101, 116]⟩ : ByteArray), (⟨#[115, 116, 97, 114, 116]⟩ : ByteArray)])[(d.kind).toNat]'hic1759)) rfl ?_)
              refine sx rfl (stp_assign (v := .string (([(⟨#[]⟩ : ByteArray), (⟨#[115, 117, 98, 109, 105, 116]⟩ : ByteArray), (⟨#[112, 111, 108, 108]⟩ : ByteArray), (⟨#[100, 111, 110, 101]⟩ : ByteArray), (⟨#[102, 97, 105, 108]⟩ : ByteArray), (⟨#[116, 105, 99, 107]⟩ : ByteArray), (⟨#[99, 97, 110, 99, 101, 108]⟩ : ByteArray), (⟨#[102, 111, 114, 103, 101, 116]⟩ : ByteArray), (⟨#[115, 116, 97, 114, 116]⟩ : ByteArray)])[(d.kind).toNat]'hic1759)) rfl ?_)
              refine sx_nil ?_
              refine wp_seq ?_
              refine wp_seq ?_
              refine sx_region ?_
              refine sx rfl (stp_assign (v := I 0) rfl ?_)
              refine sx_nil ?_
              refine wp_block ?_
              refine sx_loop (fun (m : Nat) (f : Nat → Value) (W : World) => ∃ (i : Nat), i ≤ (lineNums d).length ∧ m = (lineNums d).length - i ∧ f 1 = .pointer (some ⟨b1, 0, none⟩) ∧ f 3 = v183 ∧ f 5 = .string (saidB (deedW d.kind) ((lineNums d).take i)) ∧ f 6 = I (i : Int) ∧ St w W ([Res.row (α := Int) 3 v183 (lineNums d) [], Res.row (α := ByteArray) 9 (.slice (some ⟨b16, 0, none⟩) 9 9) ([(⟨#[]⟩ : ByteArray), (⟨#[115, 117, 98, 109, 105, 116]⟩ : ByteArray), (⟨#[112, 111, 108, 108]⟩ : ByteArray), (⟨#[100, 111, 110, 101]⟩ : ByteArray), (⟨#[102, 97, 105, 108]⟩ : ByteArray), (⟨#[116, 105, 99, 107]⟩ : ByteArray), (⟨#[99, 97, 110, 99, 101, 108]⟩ : ByteArray), (⟨#[102, 111, 114, 103, 101, 116]⟩ : ByteArray), (⟨#[115, 116, 97, 114, 116]⟩ : ByteArray)]) [], Res.bx b1 [I d.kind, I d.run, I d.plan.prio, I d.plan.most, I d.plan.wait, I d.plan.tasks, v21_0, I d.task, I d.try_, I d.worker, I d.draw] 50])) ((lineNums d).length - 0) ?_ ?_
              · exact ⟨0, (by omega), rfl, rfl, rfl, (Eq.trans (show _ = (.string (([(⟨#[]⟩ : ByteArray), (⟨#[115, 117, 98, 109, 105, 116]⟩ : ByteArray), (⟨#[112, 111, 108, 108]⟩ : ByteArray), (⟨#[100, 111, 110, 101]⟩ : ByteArray), (⟨#[102, 97, 105, 108]⟩ : ByteArray), (⟨#[116, 105, 99, 107]⟩ : ByteArray), (⟨#[99, 97, 110, 99, 101, 108]⟩ : ByteArray), (⟨#[102, 111, 114, 103, 101, 116]⟩ : ByteArray), (⟨#[115, 116, 97, 114, 116]⟩ : ByteArray)])[(d.kind).toNat]'hic1759) : Value) from rfl) (congrArg Value.string (deedW_S (by omega) _))), rfl, st186⟩
              intro m187 f188 W189 hJ190
              obtain ⟨i, hi, rfl, hs192_1, hs192_3, hs192_5, hs192_6, st191⟩ := hJ190
              have hss := saidB_size (word := deedW d.kind) (l := (lineNums d).take i) (fun n hn => h64 n (List.mem_of_mem_take hn))
              have htl := List.length_take_le i (lineNums d)
              have hws := deedW_size d.kind
              refine wp_seq ?_
              refine wp_seq ?_
              refine sx_region ?_
              refine sx rfl (stp_move (v := I (i : Int)) hs192_6 ?_)
              refine sx rfl (stp_move (v := v183) hs192_3 ?_)
              refine sx rfl (stp_len sl_IntS rfl (row_Sl (st191.get 0 rfl)) ?_)
              refine sx rfl (stp_lss rfl rfl ?_)
              refine sx_nil ?_
              refine sx_if rfl (fun h193 => ?_) (fun h193 => ?_)
              · skip
                have h193p := of_decide_eq_true h193
                refine wp_skip ?_
                refine wp_seq ?_
                refine wp_block ?_
                refine sx_region ?_
                refine sx rfl (stp_move (v := .string (saidB (deedW d.kind) ((lineNums d).take i))) hs192_5 ?_)
                refine sx rfl (stp_sadd rfl rfl (by simp only [ByteArray.size_append, bsz, List.size_toArray, List.length_cons, List.length_nil]; omega) ?_)
                refine sx rfl (stp_move (v := v183) hs192_3 ?_)
                refine sx rfl (stp_move (v := I (i : Int)) hs192_6 ?_)
                have hi01093 : i < (lineNums d).length := (by omega)
                have hq_ := idx (row_Sl (st191.get 0 rfl)) (i := i) hi01093
                obtain ⟨b194, o194, cs194, f194, hp194, hr194, hc194, hm194⟩ := hq_
                have hk194 := hc194
                obtain ⟨rfl, rfl, hok194⟩ := hk194
                refine sx rfl (stp_indexAddr sl_IntS rfl hp194 rfl rfl ?_)
                have hik := h64 _ (List.getElem_mem (l := lineNums d) (n := i) (by omega))
                simp only [I64] at hik
                have hiz := itoaB_size (z := ((lineNums d)[i]'(by omega))) (by omega)
                refine sx rfl (stp_load_rg ld_int rfl rfl hr194 (Below.refl _ _) (i := 0) rfl rfl ?_)
                refine sx rfl (stp_call1 Tryd.func24 rfl rfl ((DecimalS W189 ((lineNums d)[i]'hi01093) (by omega)).mono ?_)); rintro _ W195 ⟨rfl, hk196⟩; refine ⟨_, rfl, ?_⟩
                have st197 := St.call st191 hk196
                refine sx rfl (stp_sadd rfl rfl (by simp only [ByteArray.size_append, bsz, List.size_toArray, List.length_cons, List.length_nil]; omega) ?_)
                refine sx rfl (stp_assign (v := .string (((saidB (deedW d.kind) ((lineNums d).take i)) ++ (⟨#[32]⟩ : ByteArray)) ++ (itoaB ((lineNums d)[i]'hi01093)))) rfl ?_)
                refine sx_nil ?_
                refine sx_region ?_
                refine sx rfl (stp_move (v := I (i : Int)) hs192_6 ?_)
                refine sx rfl (stp_add rfl rfl (by (simp only [I64] at *; omega)) ?_)
                refine sx rfl (stp_assign (v := I ((i : Int) + 1)) rfl ?_)
                refine sx_nil ?_
                exact ⟨_, (lineNums d).length - (i + 1), (by omega), rfl, i + 1, (by omega), rfl, hs192_1, hs192_3, (Eq.trans (show _ = (.string (((saidB (deedW d.kind) ((lineNums d).take i)) ++ (⟨#[32]⟩ : ByteArray)) ++ (itoaB ((lineNums d)[i]'hi01093))) : Value) from rfl) (congrArg Value.string (by rw [saidB_step (by omega)]; apply ByteArray.ext; simp))), rfl, st197⟩
              · skip
                have h193p := of_decide_eq_false h193
                refine wp_exit ?_
                refine wp_seq ?_
                refine wp_seq ?_
                refine sx_region ?_
                refine sx rfl (stp_assign (v := I 0) rfl ?_)
                refine sx_nil ?_
                refine wp_block ?_
                refine sx_loop (fun (m : Nat) (f : Nat → Value) (W : World) => ∃ (k : Nat), k ≤ d.plan.edges.length ∧ m = d.plan.edges.length - k ∧ f 1 = .pointer (some ⟨b1, 0, none⟩) ∧ f 5 = .string (edgesB (saidB (deedW d.kind) (lineNums d)) (d.plan.edges.take k)) ∧ f 7 = I (k : Int) ∧ St w W ([Res.row (α := Int) 3 v183 (lineNums d) [], Res.row (α := ByteArray) 9 (.slice (some ⟨b16, 0, none⟩) 9 9) ([(⟨#[]⟩ : ByteArray), (⟨#[115, 117, 98, 109, 105, 116]⟩ : ByteArray), (⟨#[112, 111, 108, 108]⟩ : ByteArray), (⟨#[100, 111, 110, 101]⟩ : ByteArray), (⟨#[102, 97, 105, 108]⟩ : ByteArray), (⟨#[116, 105, 99, 107]⟩ : ByteArray), (⟨#[99, 97, 110, 99, 101, 108]⟩ : ByteArray), (⟨#[102, 111, 114, 103, 101, 116]⟩ : ByteArray), (⟨#[115, 116, 97, 114, 116]⟩ : ByteArray)]) [], Res.bx b1 [I d.kind, I d.run, I d.plan.prio, I d.plan.most, I d.plan.wait, I d.plan.tasks, v21_0, I d.task, I d.try_, I d.worker, I d.draw] 50])) (d.plan.edges.length - 0) ?_ ?_
                · exact ⟨0, (by omega), rfl, hs192_1, (Eq.trans (show _ = (.string (saidB (deedW d.kind) ((lineNums d).take i)) : Value) from hs192_5) (congrArg Value.string (by rw [show i = (lineNums d).length by omega, List.take_length]; rfl))), rfl, st191⟩
                intro m199 f200 W201 hJ202
                obtain ⟨k, hk, rfl, hs204_1, hs204_5, hs204_7, st203⟩ := hJ202
                have hes := edgesB_size (s := (saidB (deedW d.kind) (lineNums d))) (es := d.plan.edges.take k) (fun e he => hed e (List.mem_of_mem_take he))
                have hws := deedW_size d.kind
                have htl := List.length_take_le k d.plan.edges
                have hss := saidB_size (word := deedW d.kind) (l := (lineNums d)) h64
                refine wp_seq ?_
                refine wp_seq ?_
                refine sx_region ?_
                refine sx rfl (stp_move (v := I (k : Int)) hs204_7 ?_)
                refine sx rfl (stp_fieldAddr fa_Deed_2 hs204_1 ?_)
                refine sx rfl (stp_fieldAddr fa_Plan_4 rfl ?_)
                refine sx rfl (stp_load_bx ld_EdgeS rfl rfl (st203.get 2 rfl) (i := 6) rfl rfl ?_)
                refine sx rfl (stp_len sl_EdgeS rfl h21_0 ?_)
                refine sx rfl (stp_lss rfl rfl ?_)
                refine sx_nil ?_
                refine sx_if rfl (fun h205 => ?_) (fun h205 => ?_)
                · skip
                  have h205p := of_decide_eq_true h205
                  refine wp_skip ?_
                  refine wp_seq ?_
                  refine wp_block ?_
                  have hi86a04 : k < d.plan.edges.length := (by omega)
                  have hq_ := idx h21_0 (i := k) hi86a04
                  obtain ⟨b206, o206, cs206, f206, hp206, hr206, hc206, hm206⟩ := hq_
                  have hk207 := hc206
                  obtain ⟨he207, rfl, hok207⟩ := hk207
                  have he207 : _ = [I (d.plan.edges[k]'hi86a04).from_, I (d.plan.edges[k]'hi86a04).to_] := he207
                  subst he207
                  have hek := hed _ (List.getElem_mem (l := d.plan.edges) (n := k) (by omega))
                  simp only [Edge.ok, I64] at hek
                  have hz1 := itoaB_size (z := (d.plan.edges[k]'(by omega)).from_) (by omega)
                  have hz2 := itoaB_size (z := (d.plan.edges[k]'(by omega)).to_) (by omega)
                  refine sx_any [Pl.is (.string (edgesB (saidB (deedW d.kind) (lineNums d)) (d.plan.edges.take k))), Pl.is (.string ((edgesB (saidB (deedW d.kind) (lineNums d)) (d.plan.edges.take k)) ++ (⟨#[32]⟩ : ByteArray))), Pl.is (.pointer (some ⟨b1, 0 + 2, none⟩)), Pl.is (.pointer (some ⟨b1, 0 + 2 + 4, none⟩)), Pl.is (v21_0) (Sl.yl h21_0), Pl.is (I (k : Int)), Pl.is (.pointer (some ⟨b206, o206, none⟩)), Pl.is (.pointer (some ⟨b206, o206 + 0, none⟩)), Pl.is (I (d.plan.edges[k]'hi86a04).from_), Pl.is (.string (itoaB (d.plan.edges[k]'hi86a04).from_)), Pl.is (.string (((edgesB (saidB (deedW d.kind) (lineNums d)) (d.plan.edges.take k)) ++ (⟨#[32]⟩ : ByteArray)) ++ (itoaB (d.plan.edges[k]'hi86a04).from_))), Pl.is (.string ((((edgesB (saidB (deedW d.kind) (lineNums d)) (d.plan.edges.take k)) ++ (⟨#[32]⟩ : ByteArray)) ++ (itoaB (d.plan.edges[k]'hi86a04).from_)) ++ (⟨#[62]⟩ : ByteArray))), Pl.is (.pointer (some ⟨b1, 0 + 2, none⟩)), Pl.is (.pointer (some ⟨b1, 0 + 2 + 4, none⟩)), Pl.is (v21_0) (Sl.yl h21_0), Pl.is (I (k : Int)), Pl.is (.pointer (some ⟨b206, o206, none⟩)), Pl.is (.pointer (some ⟨b206, o206 + 1, none⟩)), Pl.is (I (d.plan.edges[k]'hi86a04).to_), Pl.is (.string (itoaB (d.plan.edges[k]'hi86a04).to_)), Pl.is (.string (((((edgesB (saidB (deedW d.kind) (lineNums d)) (d.plan.edges.take k)) ++ (⟨#[32]⟩ : ByteArray)) ++ (itoaB (d.plan.edges[k]'hi86a04).from_)) ++ (⟨#[62]⟩ : ByteArray)) ++ (itoaB (d.plan.edges[k]'hi86a04).to_))), Pl.is (.string (((((edgesB (saidB (deedW d.kind) (lineNums d)) (d.plan.edges.take k)) ++ (⟨#[32]⟩ : ByteArray)) ++ (itoaB (d.plan.edges[k]'hi86a04).from_)) ++ (⟨#[62]⟩ : ByteArray)) ++ (itoaB (d.plan.edges[k]'hi86a04).to_)))] mix (by rfl) st203 ⟨(fun f W hst hbl hd hf => stp_move (v := .string (edgesB (saidB (deedW d.kind) (lineNums d)) (d.plan.edges.take k))) ((hf 5 rfl).trans hs204_5) ⟨Below.refl _ _, rfl⟩), (fun f W hst hbl hd hf => stp_sadd (hd 0 90 rfl rfl) rfl (by simp only [ByteArray.size_append, bsz, List.size_toArray, List.length_cons, List.length_nil]; omega) ⟨Below.refl _ _, rfl⟩), (fun f W hst hbl hd hf => stp_fieldAddr fa_Deed_2 ((hf 1 rfl).trans hs204_1) ⟨Below.refl _ _, rfl⟩), (fun f W hst hbl hd hf => stp_fieldAddr fa_Plan_4 (hd 2 92 rfl rfl) ⟨Below.refl _ _, rfl⟩), (fun f W hst hbl hd hf => stp_load_bx ld_EdgeS rfl (hd 3 93 rfl rfl) (hst.get 2 rfl) (i := 6) rfl rfl ⟨Below.refl _ _, rfl⟩), (fun f W hst hbl hd hf => stp_move (v := I (k : Int)) ((hf 7 rfl).trans hs204_7) ⟨Below.refl _ _, rfl⟩), (fun f W hst hbl hd hf => stp_indexAddr sl_EdgeS (hd 4 94 rfl rfl) hp206 (hd 5 95 rfl rfl) rfl ⟨Below.refl _ _, rfl⟩), (fun f W hst hbl hd hf => stp_fieldAddr fa_Edge_0 (hd 6 96 rfl rfl) ⟨Below.refl _ _, rfl⟩), (fun f W hst hbl hd hf => stp_load_rg ld_int rfl (hd 7 97 rfl rfl) hr206 hst.below (i := 0) rfl rfl ⟨Below.refl _ _, rfl⟩), (fun f W hst hbl hd hf => stp_call1 Tryd.func24 rfl (hd 8 98 rfl rfl) ((DecimalS W (d.plan.edges[k]'hi86a04).from_ (by omega)).mono (by rintro e W2 ⟨rfl, hk⟩; exact ⟨_, rfl, hk.below, rfl⟩))), (fun f W hst hbl hd hf => stp_sadd (hd 1 91 rfl rfl) (hd 9 99 rfl rfl) (by simp only [ByteArray.size_append, bsz, List.size_toArray, List.length_cons, List.length_nil]; omega) ⟨Below.refl _ _, rfl⟩), (fun f W hst hbl hd hf => stp_sadd (hd 10 100 rfl rfl) rfl (by simp only [ByteArray.size_append, bsz, List.size_toArray, List.length_cons, List.length_nil]; omega) ⟨Below.refl _ _, rfl⟩), (fun f W hst hbl hd hf => stp_fieldAddr fa_Deed_2 ((hf 1 rfl).trans hs204_1) ⟨Below.refl _ _, rfl⟩), (fun f W hst hbl hd hf => stp_fieldAddr fa_Plan_4 (hd 12 102 rfl rfl) ⟨Below.refl _ _, rfl⟩), (fun f W hst hbl hd hf => stp_load_bx ld_EdgeS rfl (hd 13 103 rfl rfl) (hst.get 2 rfl) (i := 6) rfl rfl ⟨Below.refl _ _, rfl⟩), (fun f W hst hbl hd hf => stp_move (v := I (k : Int)) ((hf 7 rfl).trans hs204_7) ⟨Below.refl _ _, rfl⟩), (fun f W hst hbl hd hf => stp_indexAddr sl_EdgeS (hd 14 104 rfl rfl) hp206 (hd 15 105 rfl rfl) rfl ⟨Below.refl _ _, rfl⟩), (fun f W hst hbl hd hf => stp_fieldAddr fa_Edge_1 (hd 16 106 rfl rfl) ⟨Below.refl _ _, rfl⟩), (fun f W hst hbl hd hf => stp_load_rg ld_int rfl (hd 17 107 rfl rfl) hr206 hst.below (i := 1) rfl rfl ⟨Below.refl _ _, rfl⟩), (fun f W hst hbl hd hf => stp_call1 Tryd.func24 rfl (hd 18 108 rfl rfl) ((DecimalS W (d.plan.edges[k]'hi86a04).to_ (by omega)).mono (by rintro e W2 ⟨rfl, hk⟩; exact ⟨_, rfl, hk.below, rfl⟩))), (fun f W hst hbl hd hf => stp_sadd (hd 11 101 rfl rfl) (hd 19 109 rfl rfl) (by simp only [ByteArray.size_append, bsz, List.size_toArray, List.length_cons, List.length_nil]; omega) ⟨Below.refl _ _, rfl⟩), (fun f W hst hbl hd hf => stp_assign (v := .string (((((edgesB (saidB (deedW d.kind) (lineNums d)) (d.plan.edges.take k)) ++ (⟨#[32]⟩ : ByteArray)) ++ (itoaB (d.plan.edges[k]'hi86a04).from_)) ++ (⟨#[62]⟩ : ByteArray)) ++ (itoaB (d.plan.edges[k]'hi86a04).to_))) (hd 20 110 rfl rfl) ⟨Below.refl _ _, rfl⟩), trivial⟩ ?_
                  intro f208 W209 st210 hb211 hv212 hf213
                  refine sx_region ?_
                  refine sx rfl (stp_move (v := I (k : Int)) ((hf213 7 rfl).trans hs204_7) ?_)
                  refine sx rfl (stp_add rfl rfl (by (simp only [I64] at *; omega)) ?_)
                  refine sx rfl (stp_assign (v := I ((k : Int) + 1)) rfl ?_)
                  refine sx_nil ?_
                  exact ⟨_, d.plan.edges.length - (k + 1), (by omega), rfl, k + 1, (by omega), rfl, ((hf213 1 rfl).trans hs204_1), (Eq.trans (show _ = (.string (((((edgesB (saidB (deedW d.kind) (lineNums d)) (d.plan.edges.take k)) ++ (⟨#[32]⟩ : ByteArray)) ++ (itoaB (d.plan.edges[k]'hi86a04).from_)) ++ (⟨#[62]⟩ : ByteArray)) ++ (itoaB (d.plan.edges[k]'hi86a04).to_)) : Value) from (hv212 21 5 (by decide) rfl)) (congrArg Value.string (by rw [edgesB_step (by omega), edgeB]; apply ByteArray.ext; simp))), rfl, st210⟩
                · skip
                  have h205p := of_decide_eq_false h205
                  refine wp_exit ?_
                  refine wp_seq ?_
                  refine sx_region ?_
                  refine sx rfl (stp_move (v := .string (edgesB (saidB (deedW d.kind) (lineNums d)) (d.plan.edges.take k))) hs204_5 ?_)
                  refine sx rfl (stp_assign (v := .string (edgesB (saidB (deedW d.kind) (lineNums d)) (d.plan.edges.take k))) rfl ?_)
                  refine sx_nil ?_
                  refine wp_ret ?_; repeat (first | refine then_ret ?_ | refine blk_ret ?_)
                  refine ret1 Tryd.results16 rfl ?_
                  obtain rfl : k = d.plan.edges.length := by omega
                  exact ⟨(congrArg (fun z => Ending.returned (.string z)) (by unfold deedLine; rw [(bnot_f h10), if_pos rfl, List.take_length])), st203.bare⟩
            · skip
              have h176p := of_decide_eq_false h176
              refine sx_region ?_
              refine sx rfl (stp_eql rfl rfl ?_)
              refine sx rfl (stp_assign (v := .bool (decide (d.kind = 7))) rfl ?_)
              refine sx_nil ?_
              refine sx_if rfl (fun h214 => ?_) (fun h214 => ?_)
              · skip
                have h214p := of_decide_eq_true h214
                refine sx_region ?_
                refine sx rfl (stp_move (v := (.slice (some ⟨b11, 0, none⟩) 0 0)) rfl ?_)
                refine sx rfl (stp_fieldAddr fa_Deed_1 rfl ?_)
                refine sx rfl (stp_load_bx ld_int rfl rfl (st22.get 2 rfl) (i := 1) rfl rfl ?_)
                refine sx rfl (stp_buildSlice (cs := [I d.run]) (e := 3) (pcons (v := I d.run) rfl pnil) (run_buildSlice1 ap_IntS _ _ rfl rfl (by decide)) st22 ?_); intro b215 W216 hb217 st218
                have st220 := st218.f2
                refine sx rfl (stp_append_bx (ys := [d.run]) ap_IntS rfl rfl rfl st220 (Elems.ic (by simp only [I64]; omega) Elems.i0) (by simp only [List.length_nil, List.length_cons, maxLen]; omega) (by simp only [List.length_nil, List.length_cons]; omega) ?_); intro v221 W222 st223
                refine sx rfl (stp_assign (v := v221) rfl ?_)
                refine sx_nil ?_
                refine wp_seq ?_
                refine sx_region ?_
                have hlist : [] ++ [d.run] = (lineNums d) := by unfold lineNums deedNums; first | rw [if_pos (by omega)]; rfl | (rw [if_neg (by omega), if_neg (by omega)]; first | (rw [if_pos (by omega)]; rfl) | (rw [if_neg (by omega), if_pos (by omega)]; rfl) | (rw [if_neg (by omega), if_neg (by omega), if_pos (by omega)]; rfl) | (rw [if_neg (by omega), if_neg (by omega), if_neg (by omega)]))
                have st224 := st223; rw [hlist] at st224
                skip
                refine sx rfl (stp_move (v := .string (([(⟨#[]⟩ : ByteArray), (⟨#[115, 117, 98, 109, 105, 116]⟩ : ByteArray), (⟨#[112, 111, 108, 108]⟩ : ByteArray), (⟨#[100, 111, 110, 101]⟩ : ByteArray), (⟨#[102, 97, 105, 108]⟩ : ByteArray), (⟨#[116, 105, 99, 107]⟩ : ByteArray), (⟨#[99, 97, 110, 99, 101, 108]⟩ : ByteArray), (⟨#[102, 111, 114, 103, 101, 116]⟩ : ByteArray), (⟨#[115, 116, 97, 114, 116]⟩ : ByteArray)])[(d.kind).toNat]'hic1759)) rfl ?_)
                refine sx rfl (stp_assign (v := .string (([(⟨#[]⟩ : ByteArray), (⟨#[115, 117, 98, 109, 105, 116]⟩ : ByteArray), (⟨#[112, 111, 108, 108]⟩ : ByteArray), (⟨#[100, 111, 110, 101]⟩ : ByteArray), (⟨#[102, 97, 105, 108]⟩ : ByteArray), (⟨#[116, 105, 99, 107]⟩ : ByteArray), (⟨#[99, 97, 110, 99, 101, 108]⟩ : ByteArray), (⟨#[102, 111, 114, 103, 101, 116]⟩ : ByteArray), (⟨#[115, 116, 97, 114, 116]⟩ : ByteArray)])[(d.kind).toNat]'hic1759)) rfl ?_)
                refine sx_nil ?_
                refine wp_seq ?_
                refine wp_seq ?_
                refine sx_region ?_
                refine sx rfl (stp_assign (v := I 0) rfl ?_)
                refine sx_nil ?_
                refine wp_block ?_
                refine sx_loop (fun (m : Nat) (f : Nat → Value) (W : World) => ∃ (i : Nat), i ≤ (lineNums d).length ∧ m = (lineNums d).length - i ∧ f 1 = .pointer (some ⟨b1, 0, none⟩) ∧ f 3 = v221 ∧ f 5 = .string (saidB (deedW d.kind) ((lineNums d).take i)) ∧ f 6 = I (i : Int) ∧ St w W ([Res.row (α := Int) 3 v221 (lineNums d) [], Res.row (α := ByteArray) 9 (.slice (some ⟨b16, 0, none⟩) 9 9) ([(⟨#[]⟩ : ByteArray), (⟨#[115, 117, 98, 109, 105, 116]⟩ : ByteArray), (⟨#[112, 111, 108, 108]⟩ : ByteArray), (⟨#[100, 111, 110, 101]⟩ : ByteArray), (⟨#[102, 97, 105, 108]⟩ : ByteArray), (⟨#[116, 105, 99, 107]⟩ : ByteArray), (⟨#[99, 97, 110, 99, 101, 108]⟩ : ByteArray), (⟨#[102, 111, 114, 103, 101, 116]⟩ : ByteArray), (⟨#[115, 116, 97, 114, 116]⟩ : ByteArray)]) [], Res.bx b1 [I d.kind, I d.run, I d.plan.prio, I d.plan.most, I d.plan.wait, I d.plan.tasks, v21_0, I d.task, I d.try_, I d.worker, I d.draw] 50])) ((lineNums d).length - 0) ?_ ?_
                · exact ⟨0, (by omega), rfl, rfl, rfl, (Eq.trans (show _ = (.string (([(⟨#[]⟩ : ByteArray), (⟨#[115, 117, 98, 109, 105, 116]⟩ : ByteArray), (⟨#[112, 111, 108, 108]⟩ : ByteArray), (⟨#[100, 111, 110, 101]⟩ : ByteArray), (⟨#[102, 97, 105, 108]⟩ : ByteArray), (⟨#[116, 105, 99, 107]⟩ : ByteArray), (⟨#[99, 97, 110, 99, 101, 108]⟩ : ByteArray), (⟨#[102, 111, 114, 103, 101, 116]⟩ : ByteArray), (⟨#[115, 116, 97, 114, 116]⟩ : ByteArray)])[(d.kind).toNat]'hic1759) : Value) from rfl) (congrArg Value.string (deedW_S (by omega) _))), rfl, st224⟩
                intro m225 f226 W227 hJ228
                obtain ⟨i, hi, rfl, hs230_1, hs230_3, hs230_5, hs230_6, st229⟩ := hJ228
                have hss := saidB_size (word := deedW d.kind) (l := (lineNums d).take i) (fun n hn => h64 n (List.mem_of_mem_take hn))
                have htl := List.length_take_le i (lineNums d)
                have hws := deedW_size d.kind
                refine wp_seq ?_
                refine wp_seq ?_
                refine sx_region ?_
                refine sx rfl (stp_move (v := I (i : Int)) hs230_6 ?_)
                refine sx rfl (stp_move (v := v221) hs230_3 ?_)
                refine sx rfl (stp_len sl_IntS rfl (row_Sl (st229.get 0 rfl)) ?_)
                refine sx rfl (stp_lss rfl rfl ?_)
                refine sx_nil ?_
                refine sx_if rfl (fun h231 => ?_) (fun h231 => ?_)
                · skip
                  have h231p := of_decide_eq_true h231
                  refine wp_skip ?_
                  refine wp_seq ?_
                  refine wp_block ?_
                  refine sx_region ?_
                  refine sx rfl (stp_move (v := .string (saidB (deedW d.kind) ((lineNums d).take i))) hs230_5 ?_)
                  refine sx rfl (stp_sadd rfl rfl (by simp only [ByteArray.size_append, bsz, List.size_toArray, List.length_cons, List.length_nil]; omega) ?_)
                  refine sx rfl (stp_move (v := v221) hs230_3 ?_)
                  refine sx rfl (stp_move (v := I (i : Int)) hs230_6 ?_)
                  have hi01093 : i < (lineNums d).length := (by omega)
                  have hq_ := idx (row_Sl (st229.get 0 rfl)) (i := i) hi01093
                  obtain ⟨b232, o232, cs232, f232, hp232, hr232, hc232, hm232⟩ := hq_
                  have hk232 := hc232
                  obtain ⟨rfl, rfl, hok232⟩ := hk232
                  refine sx rfl (stp_indexAddr sl_IntS rfl hp232 rfl rfl ?_)
                  have hik := h64 _ (List.getElem_mem (l := lineNums d) (n := i) (by omega))
                  simp only [I64] at hik
                  have hiz := itoaB_size (z := ((lineNums d)[i]'(by omega))) (by omega)
                  refine sx rfl (stp_load_rg ld_int rfl rfl hr232 (Below.refl _ _) (i := 0) rfl rfl ?_)
                  refine sx rfl (stp_call1 Tryd.func24 rfl rfl ((DecimalS W227 ((lineNums d)[i]'hi01093) (by omega)).mono ?_)); rintro _ W233 ⟨rfl, hk234⟩; refine ⟨_, rfl, ?_⟩
                  have st235 := St.call st229 hk234
                  refine sx rfl (stp_sadd rfl rfl (by simp only [ByteArray.size_append, bsz, List.size_toArray, List.length_cons, List.length_nil]; omega) ?_)
                  refine sx rfl (stp_assign (v := .string (((saidB (deedW d.kind) ((lineNums d).take i)) ++ (⟨#[32]⟩ : ByteArray)) ++ (itoaB ((lineNums d)[i]'hi01093)))) rfl ?_)
                  refine sx_nil ?_
                  refine sx_region ?_
                  refine sx rfl (stp_move (v := I (i : Int)) hs230_6 ?_)
                  refine sx rfl (stp_add rfl rfl (by (simp only [I64] at *; omega)) ?_)
                  refine sx rfl (stp_assign (v := I ((i : Int) + 1)) rfl ?_)
                  refine sx_nil ?_
                  exact ⟨_, (lineNums d).length - (i + 1), (by omega), rfl, i + 1, (by omega), rfl, hs230_1, hs230_3, (Eq.trans (show _ = (.string (((saidB (deedW d.kind) ((lineNums d).take i)) ++ (⟨#[32]⟩ : ByteArray)) ++ (itoaB ((lineNums d)[i]'hi01093))) : Value) from rfl) (congrArg Value.string (by rw [saidB_step (by omega)]; apply ByteArray.ext; simp))), rfl, st235⟩
                · skip
                  have h231p := of_decide_eq_false h231
                  refine wp_exit ?_
                  refine wp_seq ?_
                  refine wp_seq ?_
                  refine sx_region ?_
                  refine sx rfl (stp_assign (v := I 0) rfl ?_)
                  refine sx_nil ?_
                  refine wp_block ?_
                  refine sx_loop (fun (m : Nat) (f : Nat → Value) (W : World) => ∃ (k : Nat), k ≤ d.plan.edges.length ∧ m = d.plan.edges.length - k ∧ f 1 = .pointer (some ⟨b1, 0, none⟩) ∧ f 5 = .string (edgesB (saidB (deedW d.kind) (lineNums d)) (d.plan.edges.take k)) ∧ f 7 = I (k : Int) ∧ St w W ([Res.row (α := Int) 3 v221 (lineNums d) [], Res.row (α := ByteArray) 9 (.slice (some ⟨b16, 0, none⟩) 9 9) ([(⟨#[]⟩ : ByteArray), (⟨#[115, 117, 98, 109, 105, 116]⟩ : ByteArray), (⟨#[112, 111, 108, 108]⟩ : ByteArray), (⟨#[100, 111, 110, 101]⟩ : ByteArray), (⟨#[102, 97, 105, 108]⟩ : ByteArray), (⟨#[116, 105, 99, 107]⟩ : ByteArray), (⟨#[99, 97, 110, 99, 101, 108]⟩ : ByteArray), (⟨#[102, 111, 114, 103, 101, 116]⟩ : ByteArray), (⟨#[115, 116, 97, 114, 116]⟩ : ByteArray)]) [], Res.bx b1 [I d.kind, I d.run, I d.plan.prio, I d.plan.most, I d.plan.wait, I d.plan.tasks, v21_0, I d.task, I d.try_, I d.worker, I d.draw] 50])) (d.plan.edges.length - 0) ?_ ?_
                  · exact ⟨0, (by omega), rfl, hs230_1, (Eq.trans (show _ = (.string (saidB (deedW d.kind) ((lineNums d).take i)) : Value) from hs230_5) (congrArg Value.string (by rw [show i = (lineNums d).length by omega, List.take_length]; rfl))), rfl, st229⟩
                  intro m237 f238 W239 hJ240
                  obtain ⟨k, hk, rfl, hs242_1, hs242_5, hs242_7, st241⟩ := hJ240
                  have hes := edgesB_size (s := (saidB (deedW d.kind) (lineNums d))) (es := d.plan.edges.take k) (fun e he => hed e (List.mem_of_mem_take he))
                  have hws := deedW_size d.kind
                  have htl := List.length_take_le k d.plan.edges
                  have hss := saidB_size (word := deedW d.kind) (l := (lineNums d)) h64
                  refine wp_seq ?_
                  refine wp_seq ?_
                  refine sx_region ?_
                  refine sx rfl (stp_move (v := I (k : Int)) hs242_7 ?_)
                  refine sx rfl (stp_fieldAddr fa_Deed_2 hs242_1 ?_)
                  refine sx rfl (stp_fieldAddr fa_Plan_4 rfl ?_)
                  refine sx rfl (stp_load_bx ld_EdgeS rfl rfl (st241.get 2 rfl) (i := 6) rfl rfl ?_)
                  refine sx rfl (stp_len sl_EdgeS rfl h21_0 ?_)
                  refine sx rfl (stp_lss rfl rfl ?_)
                  refine sx_nil ?_
                  refine sx_if rfl (fun h243 => ?_) (fun h243 => ?_)
                  · skip
                    have h243p := of_decide_eq_true h243
                    refine wp_skip ?_
                    refine wp_seq ?_
                    refine wp_block ?_
                    have hi86a04 : k < d.plan.edges.length := (by omega)
                    have hq_ := idx h21_0 (i := k) hi86a04
                    obtain ⟨b244, o244, cs244, f244, hp244, hr244, hc244, hm244⟩ := hq_
                    have hk245 := hc244
                    obtain ⟨he245, rfl, hok245⟩ := hk245
                    have he245 : _ = [I (d.plan.edges[k]'hi86a04).from_, I (d.plan.edges[k]'hi86a04).to_] := he245
                    subst he245
                    have hek := hed _ (List.getElem_mem (l := d.plan.edges) (n := k) (by omega))
                    simp only [Edge.ok, I64] at hek
                    have hz1 := itoaB_size (z := (d.plan.edges[k]'(by omega)).from_) (by omega)
                    have hz2 := itoaB_size (z := (d.plan.edges[k]'(by omega)).to_) (by omega)
                    refine sx_any [Pl.is (.string (edgesB (saidB (deedW d.kind) (lineNums d)) (d.plan.edges.take k))), Pl.is (.string ((edgesB (saidB (deedW d.kind) (lineNums d)) (d.plan.edges.take k)) ++ (⟨#[32]⟩ : ByteArray))), Pl.is (.pointer (some ⟨b1, 0 + 2, none⟩)), Pl.is (.pointer (some ⟨b1, 0 + 2 + 4, none⟩)), Pl.is (v21_0) (Sl.yl h21_0), Pl.is (I (k : Int)), Pl.is (.pointer (some ⟨b244, o244, none⟩)), Pl.is (.pointer (some ⟨b244, o244 + 0, none⟩)), Pl.is (I (d.plan.edges[k]'hi86a04).from_), Pl.is (.string (itoaB (d.plan.edges[k]'hi86a04).from_)), Pl.is (.string (((edgesB (saidB (deedW d.kind) (lineNums d)) (d.plan.edges.take k)) ++ (⟨#[32]⟩ : ByteArray)) ++ (itoaB (d.plan.edges[k]'hi86a04).from_))), Pl.is (.string ((((edgesB (saidB (deedW d.kind) (lineNums d)) (d.plan.edges.take k)) ++ (⟨#[32]⟩ : ByteArray)) ++ (itoaB (d.plan.edges[k]'hi86a04).from_)) ++ (⟨#[62]⟩ : ByteArray))), Pl.is (.pointer (some ⟨b1, 0 + 2, none⟩)), Pl.is (.pointer (some ⟨b1, 0 + 2 + 4, none⟩)), Pl.is (v21_0) (Sl.yl h21_0), Pl.is (I (k : Int)), Pl.is (.pointer (some ⟨b244, o244, none⟩)), Pl.is (.pointer (some ⟨b244, o244 + 1, none⟩)), Pl.is (I (d.plan.edges[k]'hi86a04).to_), Pl.is (.string (itoaB (d.plan.edges[k]'hi86a04).to_)), Pl.is (.string (((((edgesB (saidB (deedW d.kind) (lineNums d)) (d.plan.edges.take k)) ++ (⟨#[32]⟩ : ByteArray)) ++ (itoaB (d.plan.edges[k]'hi86a04).from_)) ++ (⟨#[62]⟩ : ByteArray)) ++ (itoaB (d.plan.edges[k]'hi86a04).to_))), Pl.is (.string (((((edgesB (saidB (deedW d.kind) (lineNums d)) (d.plan.edges.take k)) ++ (⟨#[32]⟩ : ByteArray)) ++ (itoaB (d.plan.edges[k]'hi86a04).from_)) ++ (⟨#[62]⟩ : ByteArray)) ++ (itoaB (d.plan.edges[k]'hi86a04).to_)))] mix (by rfl) st241 ⟨(fun f W hst hbl hd hf => stp_move (v := .string (edgesB (saidB (deedW d.kind) (lineNums d)) (d.plan.edges.take k))) ((hf 5 rfl).trans hs242_5) ⟨Below.refl _ _, rfl⟩), (fun f W hst hbl hd hf => stp_sadd (hd 0 90 rfl rfl) rfl (by simp only [ByteArray.size_append, bsz, List.size_toArray, List.length_cons, List.length_nil]; omega) ⟨Below.refl _ _, rfl⟩), (fun f W hst hbl hd hf => stp_fieldAddr fa_Deed_2 ((hf 1 rfl).trans hs242_1) ⟨Below.refl _ _, rfl⟩), (fun f W hst hbl hd hf => stp_fieldAddr fa_Plan_4 (hd 2 92 rfl rfl) ⟨Below.refl _ _, rfl⟩), (fun f W hst hbl hd hf => stp_load_bx ld_EdgeS rfl (hd 3 93 rfl rfl) (hst.get 2 rfl) (i := 6) rfl rfl ⟨Below.refl _ _, rfl⟩), (fun f W hst hbl hd hf => stp_move (v := I (k : Int)) ((hf 7 rfl).trans hs242_7) ⟨Below.refl _ _, rfl⟩), (fun f W hst hbl hd hf => stp_indexAddr sl_EdgeS (hd 4 94 rfl rfl) hp244 (hd 5 95 rfl rfl) rfl ⟨Below.refl _ _, rfl⟩), (fun f W hst hbl hd hf => stp_fieldAddr fa_Edge_0 (hd 6 96 rfl rfl) ⟨Below.refl _ _, rfl⟩), (fun f W hst hbl hd hf => stp_load_rg ld_int rfl (hd 7 97 rfl rfl) hr244 hst.below (i := 0) rfl rfl ⟨Below.refl _ _, rfl⟩), (fun f W hst hbl hd hf => stp_call1 Tryd.func24 rfl (hd 8 98 rfl rfl) ((DecimalS W (d.plan.edges[k]'hi86a04).from_ (by omega)).mono (by rintro e W2 ⟨rfl, hk⟩; exact ⟨_, rfl, hk.below, rfl⟩))), (fun f W hst hbl hd hf => stp_sadd (hd 1 91 rfl rfl) (hd 9 99 rfl rfl) (by simp only [ByteArray.size_append, bsz, List.size_toArray, List.length_cons, List.length_nil]; omega) ⟨Below.refl _ _, rfl⟩), (fun f W hst hbl hd hf => stp_sadd (hd 10 100 rfl rfl) rfl (by simp only [ByteArray.size_append, bsz, List.size_toArray, List.length_cons, List.length_nil]; omega) ⟨Below.refl _ _, rfl⟩), (fun f W hst hbl hd hf => stp_fieldAddr fa_Deed_2 ((hf 1 rfl).trans hs242_1) ⟨Below.refl _ _, rfl⟩), (fun f W hst hbl hd hf => stp_fieldAddr fa_Plan_4 (hd 12 102 rfl rfl) ⟨Below.refl _ _, rfl⟩), (fun f W hst hbl hd hf => stp_load_bx ld_EdgeS rfl (hd 13 103 rfl rfl) (hst.get 2 rfl) (i := 6) rfl rfl ⟨Below.refl _ _, rfl⟩), (fun f W hst hbl hd hf => stp_move (v := I (k : Int)) ((hf 7 rfl).trans hs242_7) ⟨Below.refl _ _, rfl⟩), (fun f W hst hbl hd hf => stp_indexAddr sl_EdgeS (hd 14 104 rfl rfl) hp244 (hd 15 105 rfl rfl) rfl ⟨Below.refl _ _, rfl⟩), (fun f W hst hbl hd hf => stp_fieldAddr fa_Edge_1 (hd 16 106 rfl rfl) ⟨Below.refl _ _, rfl⟩), (fun f W hst hbl hd hf => stp_load_rg ld_int rfl (hd 17 107 rfl rfl) hr244 hst.below (i := 1) rfl rfl ⟨Below.refl _ _, rfl⟩), (fun f W hst hbl hd hf => stp_call1 Tryd.func24 rfl (hd 18 108 rfl rfl) ((DecimalS W (d.plan.edges[k]'hi86a04).to_ (by omega)).mono (by rintro e W2 ⟨rfl, hk⟩; exact ⟨_, rfl, hk.below, rfl⟩))), (fun f W hst hbl hd hf => stp_sadd (hd 11 101 rfl rfl) (hd 19 109 rfl rfl) (by simp only [ByteArray.size_append, bsz, List.size_toArray, List.length_cons, List.length_nil]; omega) ⟨Below.refl _ _, rfl⟩), (fun f W hst hbl hd hf => stp_assign (v := .string (((((edgesB (saidB (deedW d.kind) (lineNums d)) (d.plan.edges.take k)) ++ (⟨#[32]⟩ : ByteArray)) ++ (itoaB (d.plan.edges[k]'hi86a04).from_)) ++ (⟨#[62]⟩ : ByteArray)) ++ (itoaB (d.plan.edges[k]'hi86a04).to_))) (hd 20 110 rfl rfl) ⟨Below.refl _ _, rfl⟩), trivial⟩ ?_
                    intro f246 W247 st248 hb249 hv250 hf251
                    refine sx_region ?_
                    refine sx rfl (stp_move (v := I (k : Int)) ((hf251 7 rfl).trans hs242_7) ?_)
                    refine sx rfl (stp_add rfl rfl (by (simp only [I64] at *; omega)) ?_)
                    refine sx rfl (stp_assign (v := I ((k : Int) + 1)) rfl ?_)
                    refine sx_nil ?_
                    exact ⟨_, d.plan.edges.length - (k + 1), (by omega), rfl, k + 1, (by omega), rfl, ((hf251 1 rfl).trans hs242_1), (Eq.trans (show _ = (.string (((((edgesB (saidB (deedW d.kind) (lineNums d)) (d.plan.edges.take k)) ++ (⟨#[32]⟩ : ByteArray)) ++ (itoaB (d.plan.edges[k]'hi86a04).from_)) ++ (⟨#[62]⟩ : ByteArray)) ++ (itoaB (d.plan.edges[k]'hi86a04).to_)) : Value) from (hv250 21 5 (by decide) rfl)) (congrArg Value.string (by rw [edgesB_step (by omega), edgeB]; apply ByteArray.ext; simp))), rfl, st248⟩
                  · skip
                    have h243p := of_decide_eq_false h243
                    refine wp_exit ?_
                    refine wp_seq ?_
                    refine sx_region ?_
                    refine sx rfl (stp_move (v := .string (edgesB (saidB (deedW d.kind) (lineNums d)) (d.plan.edges.take k))) hs242_5 ?_)
                    refine sx rfl (stp_assign (v := .string (edgesB (saidB (deedW d.kind) (lineNums d)) (d.plan.edges.take k))) rfl ?_)
                    refine sx_nil ?_
                    refine wp_ret ?_; repeat (first | refine then_ret ?_ | refine blk_ret ?_)
                    refine ret1 Tryd.results16 rfl ?_
                    obtain rfl : k = d.plan.edges.length := by omega
                    exact ⟨(congrArg (fun z => Ending.returned (.string z)) (by unfold deedLine; rw [(bnot_f h10), if_pos rfl, List.take_length])), st241.bare⟩
              · skip
                have h214p := of_decide_eq_false h214
                refine wp_skip ?_
                refine wp_seq ?_
                refine sx_region ?_
                have hlist : [] = (lineNums d) := by unfold lineNums deedNums; first | rw [if_pos (by omega)]; rfl | (rw [if_neg (by omega), if_neg (by omega)]; first | (rw [if_pos (by omega)]; rfl) | (rw [if_neg (by omega), if_pos (by omega)]; rfl) | (rw [if_neg (by omega), if_neg (by omega), if_pos (by omega)]; rfl) | (rw [if_neg (by omega), if_neg (by omega), if_neg (by omega)]))
                have st252 := st22.f1
                have st253 := st252; rw [hlist] at st253
                skip
                refine sx rfl (stp_move (v := .string (([(⟨#[]⟩ : ByteArray), (⟨#[115, 117, 98, 109, 105, 116]⟩ : ByteArray), (⟨#[112, 111, 108, 108]⟩ : ByteArray), (⟨#[100, 111, 110, 101]⟩ : ByteArray), (⟨#[102, 97, 105, 108]⟩ : ByteArray), (⟨#[116, 105, 99, 107]⟩ : ByteArray), (⟨#[99, 97, 110, 99, 101, 108]⟩ : ByteArray), (⟨#[102, 111, 114, 103, 101, 116]⟩ : ByteArray), (⟨#[115, 116, 97, 114, 116]⟩ : ByteArray)])[(d.kind).toNat]'hic1759)) rfl ?_)
                refine sx rfl (stp_assign (v := .string (([(⟨#[]⟩ : ByteArray), (⟨#[115, 117, 98, 109, 105, 116]⟩ : ByteArray), (⟨#[112, 111, 108, 108]⟩ : ByteArray), (⟨#[100, 111, 110, 101]⟩ : ByteArray), (⟨#[102, 97, 105, 108]⟩ : ByteArray), (⟨#[116, 105, 99, 107]⟩ : ByteArray), (⟨#[99, 97, 110, 99, 101, 108]⟩ : ByteArray), (⟨#[102, 111, 114, 103, 101, 116]⟩ : ByteArray), (⟨#[115, 116, 97, 114, 116]⟩ : ByteArray)])[(d.kind).toNat]'hic1759)) rfl ?_)
                refine sx_nil ?_
                refine wp_seq ?_
                refine wp_seq ?_
                refine sx_region ?_
                refine sx rfl (stp_assign (v := I 0) rfl ?_)
                refine sx_nil ?_
                refine wp_block ?_
                refine sx_loop (fun (m : Nat) (f : Nat → Value) (W : World) => ∃ (i : Nat), i ≤ (lineNums d).length ∧ m = (lineNums d).length - i ∧ f 1 = .pointer (some ⟨b1, 0, none⟩) ∧ f 3 = (.slice (some ⟨b11, 0, none⟩) 0 0) ∧ f 5 = .string (saidB (deedW d.kind) ((lineNums d).take i)) ∧ f 6 = I (i : Int) ∧ St w W ([Res.row (α := Int) 3 (.slice (some ⟨b11, 0, none⟩) 0 0) (lineNums d) [], Res.row (α := ByteArray) 9 (.slice (some ⟨b16, 0, none⟩) 9 9) ([(⟨#[]⟩ : ByteArray), (⟨#[115, 117, 98, 109, 105, 116]⟩ : ByteArray), (⟨#[112, 111, 108, 108]⟩ : ByteArray), (⟨#[100, 111, 110, 101]⟩ : ByteArray), (⟨#[102, 97, 105, 108]⟩ : ByteArray), (⟨#[116, 105, 99, 107]⟩ : ByteArray), (⟨#[99, 97, 110, 99, 101, 108]⟩ : ByteArray), (⟨#[102, 111, 114, 103, 101, 116]⟩ : ByteArray), (⟨#[115, 116, 97, 114, 116]⟩ : ByteArray)]) [], Res.bx b1 [I d.kind, I d.run, I d.plan.prio, I d.plan.most, I d.plan.wait, I d.plan.tasks, v21_0, I d.task, I d.try_, I d.worker, I d.draw] 50])) ((lineNums d).length - 0) ?_ ?_
                · exact ⟨0, (by omega), rfl, rfl, rfl, (Eq.trans (show _ = (.string (([(⟨#[]⟩ : ByteArray), (⟨#[115, 117, 98, 109, 105, 116]⟩ : ByteArray), (⟨#[112, 111, 108, 108]⟩ : ByteArray), (⟨#[100, 111, 110, 101]⟩ : ByteArray), (⟨#[102, 97, 105, 108]⟩ : ByteArray), (⟨#[116, 105, 99, 107]⟩ : ByteArray), (⟨#[99, 97, 110, 99, 101, 108]⟩ : ByteArray), (⟨#[102, 111, 114, 103, 101, 116]⟩ : ByteArray), (⟨#[115, 116, 97, 114, 116]⟩ : ByteArray)])[(d.kind).toNat]'hic1759) : Value) from rfl) (congrArg Value.string (deedW_S (by omega) _))), rfl, st253⟩
                intro m254 f255 W256 hJ257
                obtain ⟨i, hi, rfl, hs259_1, hs259_3, hs259_5, hs259_6, st258⟩ := hJ257
                have hss := saidB_size (word := deedW d.kind) (l := (lineNums d).take i) (fun n hn => h64 n (List.mem_of_mem_take hn))
                have htl := List.length_take_le i (lineNums d)
                have hws := deedW_size d.kind
                refine wp_seq ?_
                refine wp_seq ?_
                refine sx_region ?_
                refine sx rfl (stp_move (v := I (i : Int)) hs259_6 ?_)
                refine sx rfl (stp_move (v := (.slice (some ⟨b11, 0, none⟩) 0 0)) hs259_3 ?_)
                refine sx rfl (stp_len sl_IntS rfl (row_Sl (st258.get 0 rfl)) ?_)
                refine sx rfl (stp_lss rfl rfl ?_)
                refine sx_nil ?_
                refine sx_if rfl (fun h260 => ?_) (fun h260 => ?_)
                · skip
                  have h260p := of_decide_eq_true h260
                  refine wp_skip ?_
                  refine wp_seq ?_
                  refine wp_block ?_
                  refine sx_region ?_
                  refine sx rfl (stp_move (v := .string (saidB (deedW d.kind) ((lineNums d).take i))) hs259_5 ?_)
                  refine sx rfl (stp_sadd rfl rfl (by simp only [ByteArray.size_append, bsz, List.size_toArray, List.length_cons, List.length_nil]; omega) ?_)
                  refine sx rfl (stp_move (v := (.slice (some ⟨b11, 0, none⟩) 0 0)) hs259_3 ?_)
                  refine sx rfl (stp_move (v := I (i : Int)) hs259_6 ?_)
                  have hi01093 : i < (lineNums d).length := (by omega)
                  have hq_ := idx (row_Sl (st258.get 0 rfl)) (i := i) hi01093
                  obtain ⟨b261, o261, cs261, f261, hp261, hr261, hc261, hm261⟩ := hq_
                  have hk261 := hc261
                  obtain ⟨rfl, rfl, hok261⟩ := hk261
                  refine sx rfl (stp_indexAddr sl_IntS rfl hp261 rfl rfl ?_)
                  have hik := h64 _ (List.getElem_mem (l := lineNums d) (n := i) (by omega))
                  simp only [I64] at hik
                  have hiz := itoaB_size (z := ((lineNums d)[i]'(by omega))) (by omega)
                  refine sx rfl (stp_load_rg ld_int rfl rfl hr261 (Below.refl _ _) (i := 0) rfl rfl ?_)
                  refine sx rfl (stp_call1 Tryd.func24 rfl rfl ((DecimalS W256 ((lineNums d)[i]'hi01093) (by omega)).mono ?_)); rintro _ W262 ⟨rfl, hk263⟩; refine ⟨_, rfl, ?_⟩
                  have st264 := St.call st258 hk263
                  refine sx rfl (stp_sadd rfl rfl (by simp only [ByteArray.size_append, bsz, List.size_toArray, List.length_cons, List.length_nil]; omega) ?_)
                  refine sx rfl (stp_assign (v := .string (((saidB (deedW d.kind) ((lineNums d).take i)) ++ (⟨#[32]⟩ : ByteArray)) ++ (itoaB ((lineNums d)[i]'hi01093)))) rfl ?_)
                  refine sx_nil ?_
                  refine sx_region ?_
                  refine sx rfl (stp_move (v := I (i : Int)) hs259_6 ?_)
                  refine sx rfl (stp_add rfl rfl (by (simp only [I64] at *; omega)) ?_)
                  refine sx rfl (stp_assign (v := I ((i : Int) + 1)) rfl ?_)
                  refine sx_nil ?_
                  exact ⟨_, (lineNums d).length - (i + 1), (by omega), rfl, i + 1, (by omega), rfl, hs259_1, hs259_3, (Eq.trans (show _ = (.string (((saidB (deedW d.kind) ((lineNums d).take i)) ++ (⟨#[32]⟩ : ByteArray)) ++ (itoaB ((lineNums d)[i]'hi01093))) : Value) from rfl) (congrArg Value.string (by rw [saidB_step (by omega)]; apply ByteArray.ext; simp))), rfl, st264⟩
                · skip
                  have h260p := of_decide_eq_false h260
                  refine wp_exit ?_
                  refine wp_seq ?_
                  refine wp_seq ?_
                  refine sx_region ?_
                  refine sx rfl (stp_assign (v := I 0) rfl ?_)
                  refine sx_nil ?_
                  refine wp_block ?_
                  refine sx_loop (fun (m : Nat) (f : Nat → Value) (W : World) => ∃ (k : Nat), k ≤ d.plan.edges.length ∧ m = d.plan.edges.length - k ∧ f 1 = .pointer (some ⟨b1, 0, none⟩) ∧ f 5 = .string (edgesB (saidB (deedW d.kind) (lineNums d)) (d.plan.edges.take k)) ∧ f 7 = I (k : Int) ∧ St w W ([Res.row (α := Int) 3 (.slice (some ⟨b11, 0, none⟩) 0 0) (lineNums d) [], Res.row (α := ByteArray) 9 (.slice (some ⟨b16, 0, none⟩) 9 9) ([(⟨#[]⟩ : ByteArray), (⟨#[115, 117, 98, 109, 105, 116]⟩ : ByteArray), (⟨#[112, 111, 108, 108]⟩ : ByteArray), (⟨#[100, 111, 110, 101]⟩ : ByteArray), (⟨#[102, 97, 105, 108]⟩ : ByteArray), (⟨#[116, 105, 99, 107]⟩ : ByteArray), (⟨#[99, 97, 110, 99, 101, 108]⟩ : ByteArray), (⟨#[102, 111, 114, 103, 101, 116]⟩ : ByteArray), (⟨#[115, 116, 97, 114, 116]⟩ : ByteArray)]) [], Res.bx b1 [I d.kind, I d.run, I d.plan.prio, I d.plan.most, I d.plan.wait, I d.plan.tasks, v21_0, I d.task, I d.try_, I d.worker, I d.draw] 50])) (d.plan.edges.length - 0) ?_ ?_
                  · exact ⟨0, (by omega), rfl, hs259_1, (Eq.trans (show _ = (.string (saidB (deedW d.kind) ((lineNums d).take i)) : Value) from hs259_5) (congrArg Value.string (by rw [show i = (lineNums d).length by omega, List.take_length]; rfl))), rfl, st258⟩
                  intro m266 f267 W268 hJ269
                  obtain ⟨k, hk, rfl, hs271_1, hs271_5, hs271_7, st270⟩ := hJ269
                  have hes := edgesB_size (s := (saidB (deedW d.kind) (lineNums d))) (es := d.plan.edges.take k) (fun e he => hed e (List.mem_of_mem_take he))
                  have hws := deedW_size d.kind
                  have htl := List.length_take_le k d.plan.edges
                  have hss := saidB_size (word := deedW d.kind) (l := (lineNums d)) h64
                  refine wp_seq ?_
                  refine wp_seq ?_
                  refine sx_region ?_
                  refine sx rfl (stp_move (v := I (k : Int)) hs271_7 ?_)
                  refine sx rfl (stp_fieldAddr fa_Deed_2 hs271_1 ?_)
                  refine sx rfl (stp_fieldAddr fa_Plan_4 rfl ?_)
                  refine sx rfl (stp_load_bx ld_EdgeS rfl rfl (st270.get 2 rfl) (i := 6) rfl rfl ?_)
                  refine sx rfl (stp_len sl_EdgeS rfl h21_0 ?_)
                  refine sx rfl (stp_lss rfl rfl ?_)
                  refine sx_nil ?_
                  refine sx_if rfl (fun h272 => ?_) (fun h272 => ?_)
                  · skip
                    have h272p := of_decide_eq_true h272
                    refine wp_skip ?_
                    refine wp_seq ?_
                    refine wp_block ?_
                    have hi86a04 : k < d.plan.edges.length := (by omega)
                    have hq_ := idx h21_0 (i := k) hi86a04
                    obtain ⟨b273, o273, cs273, f273, hp273, hr273, hc273, hm273⟩ := hq_
                    have hk274 := hc273
                    obtain ⟨he274, rfl, hok274⟩ := hk274
                    have he274 : _ = [I (d.plan.edges[k]'hi86a04).from_, I (d.plan.edges[k]'hi86a04).to_] := he274
                    subst he274
                    have hek := hed _ (List.getElem_mem (l := d.plan.edges) (n := k) (by omega))
                    simp only [Edge.ok, I64] at hek
                    have hz1 := itoaB_size (z := (d.plan.edges[k]'(by omega)).from_) (by omega)
                    have hz2 := itoaB_size (z := (d.plan.edges[k]'(by omega)).to_) (by omega)
                    refine sx_any [Pl.is (.string (edgesB (saidB (deedW d.kind) (lineNums d)) (d.plan.edges.take k))), Pl.is (.string ((edgesB (saidB (deedW d.kind) (lineNums d)) (d.plan.edges.take k)) ++ (⟨#[32]⟩ : ByteArray))), Pl.is (.pointer (some ⟨b1, 0 + 2, none⟩)), Pl.is (.pointer (some ⟨b1, 0 + 2 + 4, none⟩)), Pl.is (v21_0) (Sl.yl h21_0), Pl.is (I (k : Int)), Pl.is (.pointer (some ⟨b273, o273, none⟩)), Pl.is (.pointer (some ⟨b273, o273 + 0, none⟩)), Pl.is (I (d.plan.edges[k]'hi86a04).from_), Pl.is (.string (itoaB (d.plan.edges[k]'hi86a04).from_)), Pl.is (.string (((edgesB (saidB (deedW d.kind) (lineNums d)) (d.plan.edges.take k)) ++ (⟨#[32]⟩ : ByteArray)) ++ (itoaB (d.plan.edges[k]'hi86a04).from_))), Pl.is (.string ((((edgesB (saidB (deedW d.kind) (lineNums d)) (d.plan.edges.take k)) ++ (⟨#[32]⟩ : ByteArray)) ++ (itoaB (d.plan.edges[k]'hi86a04).from_)) ++ (⟨#[62]⟩ : ByteArray))), Pl.is (.pointer (some ⟨b1, 0 + 2, none⟩)), Pl.is (.pointer (some ⟨b1, 0 + 2 + 4, none⟩)), Pl.is (v21_0) (Sl.yl h21_0), Pl.is (I (k : Int)), Pl.is (.pointer (some ⟨b273, o273, none⟩)), Pl.is (.pointer (some ⟨b273, o273 + 1, none⟩)), Pl.is (I (d.plan.edges[k]'hi86a04).to_), Pl.is (.string (itoaB (d.plan.edges[k]'hi86a04).to_)), Pl.is (.string (((((edgesB (saidB (deedW d.kind) (lineNums d)) (d.plan.edges.take k)) ++ (⟨#[32]⟩ : ByteArray)) ++ (itoaB (d.plan.edges[k]'hi86a04).from_)) ++ (⟨#[62]⟩ : ByteArray)) ++ (itoaB (d.plan.edges[k]'hi86a04).to_))), Pl.is (.string (((((edgesB (saidB (deedW d.kind) (lineNums d)) (d.plan.edges.take k)) ++ (⟨#[32]⟩ : ByteArray)) ++ (itoaB (d.plan.edges[k]'hi86a04).from_)) ++ (⟨#[62]⟩ : ByteArray)) ++ (itoaB (d.plan.edges[k]'hi86a04).to_)))] mix (by rfl) st270 ⟨(fun f W hst hbl hd hf => stp_move (v := .string (edgesB (saidB (deedW d.kind) (lineNums d)) (d.plan.edges.take k))) ((hf 5 rfl).trans hs271_5) ⟨Below.refl _ _, rfl⟩), (fun f W hst hbl hd hf => stp_sadd (hd 0 90 rfl rfl) rfl (by simp only [ByteArray.size_append, bsz, List.size_toArray, List.length_cons, List.length_nil]; omega) ⟨Below.refl _ _, rfl⟩), (fun f W hst hbl hd hf => stp_fieldAddr fa_Deed_2 ((hf 1 rfl).trans hs271_1) ⟨Below.refl _ _, rfl⟩), (fun f W hst hbl hd hf => stp_fieldAddr fa_Plan_4 (hd 2 92 rfl rfl) ⟨Below.refl _ _, rfl⟩), (fun f W hst hbl hd hf => stp_load_bx ld_EdgeS rfl (hd 3 93 rfl rfl) (hst.get 2 rfl) (i := 6) rfl rfl ⟨Below.refl _ _, rfl⟩), (fun f W hst hbl hd hf => stp_move (v := I (k : Int)) ((hf 7 rfl).trans hs271_7) ⟨Below.refl _ _, rfl⟩), (fun f W hst hbl hd hf => stp_indexAddr sl_EdgeS (hd 4 94 rfl rfl) hp273 (hd 5 95 rfl rfl) rfl ⟨Below.refl _ _, rfl⟩), (fun f W hst hbl hd hf => stp_fieldAddr fa_Edge_0 (hd 6 96 rfl rfl) ⟨Below.refl _ _, rfl⟩), (fun f W hst hbl hd hf => stp_load_rg ld_int rfl (hd 7 97 rfl rfl) hr273 hst.below (i := 0) rfl rfl ⟨Below.refl _ _, rfl⟩), (fun f W hst hbl hd hf => stp_call1 Tryd.func24 rfl (hd 8 98 rfl rfl) ((DecimalS W (d.plan.edges[k]'hi86a04).from_ (by omega)).mono (by rintro e W2 ⟨rfl, hk⟩; exact ⟨_, rfl, hk.below, rfl⟩))), (fun f W hst hbl hd hf => stp_sadd (hd 1 91 rfl rfl) (hd 9 99 rfl rfl) (by simp only [ByteArray.size_append, bsz, List.size_toArray, List.length_cons, List.length_nil]; omega) ⟨Below.refl _ _, rfl⟩), (fun f W hst hbl hd hf => stp_sadd (hd 10 100 rfl rfl) rfl (by simp only [ByteArray.size_append, bsz, List.size_toArray, List.length_cons, List.length_nil]; omega) ⟨Below.refl _ _, rfl⟩), (fun f W hst hbl hd hf => stp_fieldAddr fa_Deed_2 ((hf 1 rfl).trans hs271_1) ⟨Below.refl _ _, rfl⟩), (fun f W hst hbl hd hf => stp_fieldAddr fa_Plan_4 (hd 12 102 rfl rfl) ⟨Below.refl _ _, rfl⟩), (fun f W hst hbl hd hf => stp_load_bx ld_EdgeS rfl (hd 13 103 rfl rfl) (hst.get 2 rfl) (i := 6) rfl rfl ⟨Below.refl _ _, rfl⟩), (fun f W hst hbl hd hf => stp_move (v := I (k : Int)) ((hf 7 rfl).trans hs271_7) ⟨Below.refl _ _, rfl⟩), (fun f W hst hbl hd hf => stp_indexAddr sl_EdgeS (hd 14 104 rfl rfl) hp273 (hd 15 105 rfl rfl) rfl ⟨Below.refl _ _, rfl⟩), (fun f W hst hbl hd hf => stp_fieldAddr fa_Edge_1 (hd 16 106 rfl rfl) ⟨Below.refl _ _, rfl⟩), (fun f W hst hbl hd hf => stp_load_rg ld_int rfl (hd 17 107 rfl rfl) hr273 hst.below (i := 1) rfl rfl ⟨Below.refl _ _, rfl⟩), (fun f W hst hbl hd hf => stp_call1 Tryd.func24 rfl (hd 18 108 rfl rfl) ((DecimalS W (d.plan.edges[k]'hi86a04).to_ (by omega)).mono (by rintro e W2 ⟨rfl, hk⟩; exact ⟨_, rfl, hk.below, rfl⟩))), (fun f W hst hbl hd hf => stp_sadd (hd 11 101 rfl rfl) (hd 19 109 rfl rfl) (by simp only [ByteArray.size_append, bsz, List.size_toArray, List.length_cons, List.length_nil]; omega) ⟨Below.refl _ _, rfl⟩), (fun f W hst hbl hd hf => stp_assign (v := .string (((((edgesB (saidB (deedW d.kind) (lineNums d)) (d.plan.edges.take k)) ++ (⟨#[32]⟩ : ByteArray)) ++ (itoaB (d.plan.edges[k]'hi86a04).from_)) ++ (⟨#[62]⟩ : ByteArray)) ++ (itoaB (d.plan.edges[k]'hi86a04).to_))) (hd 20 110 rfl rfl) ⟨Below.refl _ _, rfl⟩), trivial⟩ ?_
                    intro f275 W276 st277 hb278 hv279 hf280
                    refine sx_region ?_
                    refine sx rfl (stp_move (v := I (k : Int)) ((hf280 7 rfl).trans hs271_7) ?_)
                    refine sx rfl (stp_add rfl rfl (by (simp only [I64] at *; omega)) ?_)
                    refine sx rfl (stp_assign (v := I ((k : Int) + 1)) rfl ?_)
                    refine sx_nil ?_
                    exact ⟨_, d.plan.edges.length - (k + 1), (by omega), rfl, k + 1, (by omega), rfl, ((hf280 1 rfl).trans hs271_1), (Eq.trans (show _ = (.string (((((edgesB (saidB (deedW d.kind) (lineNums d)) (d.plan.edges.take k)) ++ (⟨#[32]⟩ : ByteArray)) ++ (itoaB (d.plan.edges[k]'hi86a04).from_)) ++ (⟨#[62]⟩ : ByteArray)) ++ (itoaB (d.plan.edges[k]'hi86a04).to_)) : Value) from (hv279 21 5 (by decide) rfl)) (congrArg Value.string (by rw [edgesB_step (by omega), edgeB]; apply ByteArray.ext; simp))), rfl, st277⟩
                  · skip
                    have h272p := of_decide_eq_false h272
                    refine wp_exit ?_
                    refine wp_seq ?_
                    refine sx_region ?_
                    refine sx rfl (stp_move (v := .string (edgesB (saidB (deedW d.kind) (lineNums d)) (d.plan.edges.take k))) hs271_5 ?_)
                    refine sx rfl (stp_assign (v := .string (edgesB (saidB (deedW d.kind) (lineNums d)) (d.plan.edges.take k))) rfl ?_)
                    refine sx_nil ?_
                    refine wp_ret ?_; repeat (first | refine then_ret ?_ | refine blk_ret ?_)
                    refine ret1 Tryd.results16 rfl ?_
                    obtain rfl : k = d.plan.edges.length := by omega
                    exact ⟨(congrArg (fun z => Ending.returned (.string z)) (by unfold deedLine; rw [(bnot_f h10), if_pos rfl, List.take_length])), st270.bare⟩
end Go.Proofs.YtchnllpegfbleaaDoor

/-
  A line's pieces; numbers and deeds read. Plain theory.
-/
namespace Go.Proofs.YtchnllpegfbleaaDoor
set_option linter.unusedSimpArgs false
set_option linter.unusedVariables false
open Go.RowKit Go.Lib

/-! ### Pieces -/
def pre (p : List UInt8) : List (List UInt8) → List (List UInt8)
  | [] => [p]
  | q :: qs => (p ++ q) :: qs
def cutP (b : UInt8) : List UInt8 → List (List UInt8)
  | [] => [[]]
  | c :: l => if c = b then [] :: cutP b l else pre [c] (cutP b l)
def bs (l : List UInt8) : ByteArray := ⟨l.toArray⟩
theorem bs_data (s : ByteArray) : bs s.data.toList = s := rfl
theorem data_bs (l : List UInt8) : (bs l).data.toList = l := rfl
def pieces (b : UInt8) (s : ByteArray) : List ByteArray := (cutP b s.data.toList).map bs
theorem pre_pre (p q : List UInt8) (l : List (List UInt8)) : pre p (pre q l) = pre (p ++ q) l := by
  cases l with
  | nil => rfl
  | cons a l => simp [pre]
theorem pre_nil {l : List (List UInt8)} (h : l ≠ []) : pre [] l = l := by
  cases l with
  | nil => exact absurd rfl h
  | cons a l => rfl
theorem cutP_ne (b : UInt8) : ∀ l, cutP b l ≠ []
  | [] => by simp [cutP]
  | c :: l => by
    unfold cutP
    split
    · simp
    · cases cutP b l <;> simp [pre]
theorem index_cons (c0 c : UInt8) (l : List UInt8) : index (c0 :: l) [c] = if c0 = c then 0 else if index l [c] = -1 then -1 else index l [c] + 1 := by
  rw [index]
  by_cases h : c0 = c
  · subst h; simp [List.isPrefixOf]
  · have h2 : ¬ c = c0 := fun e => h e.symm
    simp [List.isPrefixOf, h, h2]
theorem cutP_index (c : UInt8) : ∀ l : List UInt8, cutP c l = if index l [c] = -1 then [l] else l.take (index l [c]).toNat :: cutP c (l.drop ((index l [c]).toNat + 1))
  | [] => by simp [cutP, index]
  | c0 :: l => by
    rw [index_cons]
    by_cases h : c0 = c
    · subst h; simp [cutP]
    · rw [if_neg h]
      have ih := cutP_index c l
      have hge := index_ge l [c]
      rw [show cutP c (c0 :: l) = pre [c0] (cutP c l) by rw [cutP, if_neg h], ih]
      by_cases h1 : index l [c] = -1
      · simp [h1, pre]
      · rw [if_neg h1, if_neg h1, if_neg (by omega)]
        have e : (index l [c] + 1).toNat = (index l [c]).toNat + 1 := by omega
        rw [e]
        simp [pre]
theorem splitK_cut (c : UInt8) : ∀ (n : Nat) (l : List UInt8), count l [c] = n → splitK [c] 0 n l = cutP c l
  | 0, l, h => by
    have hm : index l [c] = -1 := by
      by_cases h1 : index l [c] = -1
      · exact h1
      · have hge := index_ge l [c]
        have h2 : index l [c] = ((index l [c]).toNat : Nat) := by omega
        have := count_hit (s := l) (sub := [c]) (by simp) h2
        omega
    rw [cutP_index, if_pos hm]; rfl
  | n + 1, l, h => by
    by_cases h1 : index l [c] = -1
    · have := count_miss h1; omega
    · have hge := index_ge l [c]
      have h2 : index l [c] = ((index l [c]).toNat : Nat) := by omega
      have h3 : count l [c] = 1 + count (l.drop ((index l [c]).toNat + 1)) [c] := count_hit (s := l) (sub := [c]) (by simp) h2
      have ih := splitK_cut c n (l.drop ((index l [c]).toNat + 1)) (by omega)
      rw [cutP_index, if_neg h1, ← ih, splitK, if_neg (by simpa using h1)]
      rfl
theorem map_data_inj : ∀ {a b : List ByteArray}, a.map (·.data.toList) = b.map (·.data.toList) → a = b
  | [], [], _ => rfl
  | [], _ :: _, h => by simp at h
  | _ :: _, [], h => by simp at h
  | x :: xs, y :: ys, h => by
    simp only [List.map_cons, List.cons.injEq] at h
    have e : x = y := by rw [← bs_data x, ← bs_data y, h.1]
    rw [e, map_data_inj h.2]
theorem split_pieces (c : UInt8) (s : ByteArray) : splitB (bs [c]) 0 (countB s (bs [c])) s = pieces c s := by
  refine map_data_inj ?_
  rw [splitB_data]
  show splitK [c] 0 (count s.data.toList [c]) s.data.toList = _
  rw [splitK_cut c _ _ rfl]
  simp [pieces, Function.comp_def, data_bs]
theorem pieces_ne (b : UInt8) (s : ByteArray) : pieces b s ≠ [] := by
  simp [pieces, cutP_ne]
theorem pieces_pos (b : UInt8) (s : ByteArray) : 0 < (pieces b s).length := List.length_pos_iff.2 (pieces_ne b s)
theorem cutP_count (b : UInt8) : ∀ l, (cutP b l).length = l.count b + 1
  | [] => rfl
  | c :: l => by
    unfold cutP
    have ih := cutP_count b l
    split
    · next h => subst h; simp [ih]
    · next h =>
      rw [List.count_cons_of_ne h]
      cases hc : cutP b l with
      | nil => exact absurd hc (cutP_ne b l)
      | cons a az => rw [hc] at ih; simpa [pre] using ih
theorem cutP_size (b : UInt8) : ∀ l, ∀ p ∈ cutP b l, p.length ≤ l.length
  | [], p, h => by simp [cutP] at h; simp [h]
  | c :: l, p, h => by
    have ih := cutP_size b l
    unfold cutP at h
    split at h
    · rcases List.mem_cons.1 h with rfl | h
      · simp
      · have := ih p h; simp; omega
    · cases hc : cutP b l with
      | nil => exact absurd hc (cutP_ne b l)
      | cons a az =>
        rw [hc] at h ih
        rcases List.mem_cons.1 h with rfl | h
        · have := ih a List.mem_cons_self; simp; omega
        · have := ih p (List.mem_cons_of_mem _ h); simp; omega
/-! ### Numbers -/
def dv (l : List UInt8) : Nat := l.foldl (fun a c => a * 10 + (c.toNat - 48)) 0
theorem dv_app (l : List UInt8) (c : UInt8) : dv (l ++ [c]) = dv l * 10 + (c.toNat - 48) := by simp [dv, List.foldl_append]
theorem dig_val {d : Nat} (h : d < 10) : (UInt8.ofNat (48 + d)).toNat = 48 + d := by
  rw [UInt8.toNat_ofNat']; omega
theorem dv_dec (u : Nat) : dv (decDigits u) = u := by
  induction u using Nat.strongRecOn with
  | ind u ih =>
    rw [decDigits]
    split
    · next h =>
      show 0 * 10 + ((UInt8.ofNat (48 + u)).toNat - 48) = u
      rw [dig_val h]; omega
    · next h =>
      rw [dv_app, ih (u / 10) (by omega), dig_val (by omega)]; omega
theorem dec_inj {m n : Nat} (h : decDigits m = decDigits n) : m = n := by rw [← dv_dec m, h, dv_dec]
theorem dec_digit (u : Nat) : ∀ c ∈ decDigits u, 48 ≤ c.toNat ∧ c.toNat ≤ 57 := by
  induction u using Nat.strongRecOn with
  | ind u ih =>
    intro c hc
    rw [decDigits] at hc
    split at hc
    · next h =>
      simp only [List.mem_singleton] at hc
      subst hc; rw [dig_val h]; omega
    · next h =>
      rcases List.mem_append.1 hc with hc | hc
      · exact ih (u / 10) (by omega) c hc
      · simp only [List.mem_singleton] at hc
        subst hc; rw [dig_val (by omega)]; omega
theorem dec_ne (u : Nat) : decDigits u ≠ [] := by
  rw [decDigits]; split <;> simp
theorem decFrom_all : ∀ (l : List UInt8) (acc : Nat), (∀ c ∈ l, 48 ≤ c.toNat ∧ c.toNat ≤ 57) → decFrom acc l = some (l.foldl (fun a c => a * 10 + (c.toNat - 48)) acc)
  | [], acc, _ => rfl
  | c :: l, acc, h => by
    have h1 := h c List.mem_cons_self
    have hd : digitVal c = some (c.toNat - 48) := by
      simp [digitVal, h1]
    unfold decFrom
    rw [hd]
    exact decFrom_all l _ fun x hx => h x (List.mem_cons_of_mem _ hx)
theorem atoi_dec (u : Nat) : atoi (decDigits u) = some (u : Int) := by
  have h := dec_digit u
  have h2 := dv_dec u
  cases hd : decDigits u with
  | nil => exact absurd hd (dec_ne u)
  | cons c l =>
    rw [hd] at h h2
    have hc := h c List.mem_cons_self
    have e1 : ¬ (c == 45) = true := by
      intro e; have : c = 45 := by simpa using e
      subst this; simp at hc
    have e2 : ¬ (c == 43) = true := by
      intro e; have : c = 43 := by simpa using e
      subst this; simp at hc
    rw [atoi, if_neg e1, if_neg e2, decNat, if_neg (by simp), decFrom_all _ _ h]
    show Option.map _ (some (dv (c :: l))) = _
    rw [h2]; rfl
noncomputable def readDec (s : ByteArray) : Option Int := @dite _ (∃ n : Nat, n ≤ 1000000000 ∧ s = itoaB n) (Classical.propDecidable _) (fun h => some ((Classical.choose h : Nat) : Int)) (fun _ => none)
theorem itoaB_nat (n : Nat) : itoaB (n : Int) = bs (decDigits n) := by
  have : itoa (n : Int) = decDigits n := by
    unfold itoa; rw [if_neg (by omega)]; simp
  rw [itoaB, this]; rfl
theorem bs_inj {a b : List UInt8} (h : bs a = bs b) : a = b := by
  rw [← data_bs a, h, data_bs]
theorem itoaB_inj {m n : Nat} (h : itoaB (m : Int) = itoaB (n : Int)) : m = n := by
  rw [itoaB_nat, itoaB_nat] at h
  exact dec_inj (bs_inj h)
theorem readDec_some {s : ByteArray} {n : Nat} (h : n ≤ 1000000000) (e : s = itoaB n) : readDec s = some (n : Int) := by
  have hx : ∃ n : Nat, n ≤ 1000000000 ∧ s = itoaB n := ⟨n, h, e⟩
  unfold readDec
  rw [dif_pos hx]
  have hc := (Classical.choose_spec hx).2
  rw [itoaB_inj (hc.symm.trans e)]
theorem readDec_none {s : ByteArray} (h : ∀ n : Nat, n ≤ 1000000000 → s ≠ itoaB n) : readDec s = none := by
  unfold readDec
  rw [dif_neg fun ⟨n, h1, h2⟩ => h n h1 h2]
theorem readDec_spec {s : ByteArray} {z : Int} (h : readDec s = some z) : 0 ≤ z ∧ z ≤ 1000000000 ∧ s = itoaB z := by
  unfold readDec at h
  split at h
  · next hx =>
    simp only [Option.some.injEq] at h
    have hc := Classical.choose_spec hx
    subst h
    exact ⟨by omega, by omega, hc.2⟩
  · cases h
theorem readDec_int {s : ByteArray} {z : Int} (h0 : 0 ≤ z) (h : z ≤ 1000000000) (e : s = itoaB z) : readDec s = some z := by
  have : z = ((z.toNat : Nat) : Int) := by omega
  rw [this] at e ⊢
  exact readDec_some (by omega) e
theorem readDec_len {s : ByteArray} {z : Int} (h : readDec s = some z) : s.size ≤ 10 := by
  obtain ⟨h0, h1, e⟩ := readDec_spec h
  have : z = ((z.toNat : Nat) : Int) := by omega
  rw [this, itoaB_nat] at e
  have := decDigits_len z.toNat 9 (by omega)
  rw [e]
  simpa [bs, ByteArray.size] using this
theorem readDec_digit {s : ByteArray} {z : Int} (h : readDec s = some z) : (∀ c ∈ s.data.toList, 48 ≤ c.toNat ∧ c.toNat ≤ 57) ∧ dv s.data.toList = z.toNat := by
  obtain ⟨h0, h1, e⟩ := readDec_spec h
  have : z = ((z.toNat : Nat) : Int) := by omega
  rw [this, itoaB_nat] at e
  rw [e, data_bs, dv_dec]
  exact ⟨dec_digit _, rfl⟩
theorem readDec_atoi {s : ByteArray} {z : Int} (h : readDec s = some z) : atoiAll s.data.toList = .ok z := by
  have hl := readDec_len h
  obtain ⟨h0, h1, e⟩ := readDec_spec h
  have hz : z = ((z.toNat : Nat) : Int) := by omega
  rw [atoiAll_short _ (by have : s.data.toList.length = s.size := rfl; omega)]
  rw [hz, itoaB_nat] at e
  rw [e, data_bs, atoi_dec, ← hz]; rfl
attribute [irreducible] readDec
/-! ### Rows of numbers -/
noncomputable def numsOf : List ByteArray → Option (List Int)
  | [] => some []
  | w :: ws => match readDec w with
    | none => none
    | some z => (numsOf ws).map (z :: ·)
theorem numsOf_app (a : List ByteArray) (w : ByteArray) : numsOf (a ++ [w]) = match numsOf a with
    | none => none
    | some l => (readDec w).map fun z => l ++ [z] := by
  induction a with
  | nil => simp only [List.nil_append, numsOf]; cases readDec w <;> rfl
  | cons b a ih =>
    rw [List.cons_append]
    unfold numsOf
    cases readDec b with
    | none => rfl
    | some z =>
      simp only
      rw [ih]
      cases numsOf a with
      | none => rfl
      | some l => simp only [Option.map_some]; cases readDec w <;> rfl
theorem numsOf_bad {ws : List ByteArray} {k : Nat} {w : ByteArray} (h : ws[k]? = some w) (hn : readDec w = none) : numsOf ws = none := by
  induction ws generalizing k with
  | nil => simp at h
  | cons b ws ih =>
    unfold numsOf
    cases k with
    | zero => simp at h; subst h; rw [hn]
    | succ k =>
      simp at h
      rw [ih h]
      cases readDec b <;> rfl
theorem numsOf_len : ∀ {ws : List ByteArray} {l : List Int}, numsOf ws = some l → l.length = ws.length
  | [], l, h => by simp [numsOf] at h; subst h; rfl
  | w :: ws, l, h => by
    unfold numsOf at h
    split at h
    · cases h
    · obtain ⟨l', h', rfl⟩ := Option.map_eq_some_iff.1 h
      simp [numsOf_len h']
theorem numsOf_I64 : ∀ {ws : List ByteArray} {l : List Int}, numsOf ws = some l → ∀ z ∈ l, 0 ≤ z ∧ z ≤ 1000000000
  | [], l, h => by simp [numsOf] at h; subst h; simp
  | w :: ws, l, h => by
    unfold numsOf at h
    split at h
    · cases h
    · next z hz =>
      obtain ⟨l', h', rfl⟩ := Option.map_eq_some_iff.1 h
      intro y hy
      rcases List.mem_cons.1 hy with rfl | hy
      · have := readDec_spec hz; omega
      · exact numsOf_I64 h' y hy
/-! ### Edges -/
noncomputable def edgeOf (w : ByteArray) : Option Edge :=
  match numsOf (pieces 62 w) with
  | some [a, b] => some ⟨a, b⟩
  | _ => none
noncomputable def edgesOf : List ByteArray → Option (List Edge)
  | [] => some []
  | w :: ws => match edgeOf w with
    | none => none
    | some z => (edgesOf ws).map (z :: ·)
theorem edgesOf_app (a : List ByteArray) (w : ByteArray) : edgesOf (a ++ [w]) = match edgesOf a with
    | none => none
    | some l => (edgeOf w).map fun z => l ++ [z] := by
  induction a with
  | nil => simp only [List.nil_append, edgesOf]; cases edgeOf w <;> rfl
  | cons b a ih =>
    rw [List.cons_append]
    unfold edgesOf
    cases edgeOf b with
    | none => rfl
    | some z =>
      simp only
      rw [ih]
      cases edgesOf a with
      | none => rfl
      | some l => simp only [Option.map_some]; cases edgeOf w <;> rfl
theorem edgesOf_bad {ws : List ByteArray} {k : Nat} {w : ByteArray} (h : ws[k]? = some w) (hn : edgeOf w = none) : edgesOf ws = none := by
  induction ws generalizing k with
  | nil => simp at h
  | cons b ws ih =>
    unfold edgesOf
    cases k with
    | zero => simp at h; subst h; rw [hn]
    | succ k =>
      simp at h
      rw [ih h]
      cases edgeOf b <;> rfl
/-- The program's way: what is ahead of the first '>' and what is behind it. -/
theorem edgeOf_cut (w : ByteArray) : edgeOf w = match numsOf [bs (Lib.cut w.data.toList [62]).1, bs (Lib.cut w.data.toList [62]).2.1] with
    | some [a, b] => some ⟨a, b⟩
    | _ => none := by
  have nil_none : readDec (bs []) = none := by
    cases h : readDec (bs []) with
    | none => rfl
    | some z =>
      obtain ⟨h0, h1, e⟩ := readDec_spec h
      have hz : z = ((z.toNat : Nat) : Int) := by omega
      rw [hz, itoaB_nat] at e
      exact absurd (bs_inj e).symm (dec_ne _)
  have one_none : ∀ x : ByteArray, (match numsOf [x] with | some [a, b] => some (⟨a, b⟩ : Edge) | _ => none) = none := by
    intro x
    cases h : numsOf [x] with
    | none => rfl
    | some l =>
      have := numsOf_len h
      match l, this with
      | [z], _ => rfl
  unfold edgeOf pieces
  have hge := index_ge w.data.toList [62]
  rw [cutP_index]
  by_cases h1 : index w.data.toList [62] = -1
  · rw [if_pos h1]
    unfold Lib.cut
    rw [if_neg (by omega)]
    simp only [List.map_cons, List.map_nil]
    rw [one_none, numsOf_bad (ws := [_, bs []]) (k := 1) rfl nil_none]
  · rw [if_neg h1]
    unfold Lib.cut
    rw [if_pos (by omega)]
    simp only [List.map_cons, List.length_cons, List.length_nil, Nat.zero_add]
    generalize hr : w.data.toList.drop ((index w.data.toList [62]).toNat + 1) = r
    generalize ha : w.data.toList.take (index w.data.toList [62]).toNat = a
    rw [cutP_index]
    by_cases h2 : index r [62] = -1
    · rw [if_pos h2]; rfl
    · rw [if_neg h2]
      have hin : (62 : UInt8) ∈ r := by
        by_cases hm : (62 : UInt8) ∈ r
        · exact hm
        · have hc := count_one 62 r
          rw [List.count_eq_zero.2 hm] at hc
          have hg := index_ge r [62]
          have h3 : index r [62] = ((index r [62]).toNat : Nat) := by omega
          have := count_hit (s := r) (sub := [62]) (by simp) h3
          omega
      have hn : readDec (bs r) = none := by
        cases h : readDec (bs r) with
        | none => rfl
        | some z =>
          have := (readDec_digit h).1 62 (by rw [data_bs]; exact hin)
          simp at this
      rw [numsOf_bad (ws := [bs a, bs r]) (k := 1) rfl hn]
      cases h : numsOf (bs a :: List.map bs (List.take (index r [62]).toNat r :: cutP 62 (List.drop ((index r [62]).toNat + 1) r))) with
      | none => rfl
      | some l =>
        have hl := numsOf_len h
        have hp := List.length_pos_iff.2 (cutP_ne 62 (List.drop ((index r [62]).toNat + 1) r))
        simp only [List.length_cons, List.length_map] at hl
        match l, hl with
        | [], _ => rfl
        | [_], _ => rfl
        | [_, _], hl => exact absurd hl (by simp only [List.length_cons, List.length_nil]; omega)
        | _ :: _ :: _ :: _, _ => rfl
/-! ### Deeds -/
def kindUp (w : ByteArray) : Nat → Int
  | 0 => 0
  | n + 1 => if deedW ((n : Int) + 1) = w then (n : Int) + 1 else kindUp w n
theorem kindUp_rng (w : ByteArray) : ∀ n, 0 ≤ kindUp w n ∧ kindUp w n ≤ n
  | 0 => by simp [kindUp]
  | n + 1 => by
    have := kindUp_rng w n
    unfold kindUp
    split <;> omega
def deed0 : Deed := ⟨0, 0, ⟨0, 0, 0, 0, []⟩, 0, 0, 0, 0⟩
def ofKind (k : Int) : Deed := { deed0 with kind := k }
def fillI (k : Int) (n : List Int) : Deed :=
  if k = 2 then { ofKind k with worker := n.headD 0, draw := (n.drop 1).headD 0 }
  else if k = 3 ∨ k = 4 then { ofKind k with run := n.headD 0, task := (n.drop 1).headD 0, try_ := ((n.drop 1).drop 1).headD 0 }
  else if k = 6 ∨ k = 7 then { ofKind k with run := n.headD 0 }
  else ofKind k
def fillS (k : Int) (n : List Int) : Deed :=
  if k = 2 ∧ n.length = 2 then { ofKind k with worker := n.headD 0, draw := (n.drop 1).headD 0 }
  else if (k = 3 ∨ k = 4) ∧ n.length = 3 then { ofKind k with run := n.headD 0, task := (n.drop 1).headD 0, try_ := ((n.drop 1).drop 1).headD 0 }
  else if (k = 6 ∨ k = 7) ∧ n.length = 1 then { ofKind k with run := n.headD 0 }
  else ofKind k
def submitOf (n : List Int) (es : List Edge) : Deed := ⟨1, n.headD 0, ⟨(n.drop 1).headD 0, (n.drop 2).headD 0, (n.drop 3).headD 0, (n.drop 4).headD 0, es⟩, 0, 0, 0, 0⟩
noncomputable def getI (line : ByteArray) : Option Deed :=
  let ws := pieces 32 line
  let k := kindUp (ws.headD (bs [])) 8
  if k = 1 then
    if ws.length < 6 then none
    else match edgesOf (ws.drop 6), numsOf ((ws.take 6).drop 1) with
      | some es, some n => some (submitOf n es)
      | _, _ => none
  else (numsOf (ws.drop 1)).map (fillI k)
noncomputable def getS (line : ByteArray) : Option Deed :=
  let ws := pieces 32 line
  let k := kindUp (ws.headD (bs [])) 8
  if k = 1 then
    match numsOf ((ws.take 6).drop 1), edgesOf (ws.drop 6) with
      | some n, some es => some (if n.length = 5 then submitOf n es else ofKind 1)
      | _, _ => none
  else (numsOf (ws.drop 1)).map (fillS k)
noncomputable def rdOf (line : ByteArray) (d : Option Deed) : Deed × Bool :=
  match d with
  | none => (deed0, false)
  | some d => if line = bs [] ∨ deedLine d ≠ line then (deed0, false) else (d, true)
noncomputable def readDeed (line : ByteArray) : Deed × Bool := rdOf line (getI line)
end Go.Proofs.YtchnllpegfbleaaDoor

/-
  Deeds read: the program's way and the reference's are one. Plain theory.
-/
namespace Go.Proofs.YtchnllpegfbleaaDoor
set_option linter.unusedSimpArgs false
set_option linter.unusedVariables false
open Go.RowKit Go.Lib
def cnt (s : ByteArray) : Nat := s.data.toList.count 32
theorem cnt_app (a b : ByteArray) : cnt (a ++ b) = cnt a + cnt b := by
  simp [cnt, ByteArray.data_append]
theorem cnt_itoa (z : Int) : cnt (itoaB z) = 0 := by
  refine List.count_eq_zero.2 fun h => ?_
  have h' : (32 : UInt8) ∈ itoa z := by simpa [itoaB] using h
  unfold itoa at h'
  split at h'
  · rcases List.mem_cons.1 h' with h' | h'
    · exact absurd h' (by decide)
    · have := dec_digit _ _ h'; simp at this
  · have := dec_digit _ _ h'; simp at this
theorem cnt_said (w : ByteArray) (l : List Int) : cnt (saidB w l) = cnt w + l.length := by
  induction l generalizing w with
  | nil => rfl
  | cons n l ih =>
    show cnt (saidB (w ++ ((⟨#[32]⟩ : ByteArray) ++ itoaB n)) l) = _
    rw [ih, cnt_app, cnt_app, cnt_itoa]
    have : cnt (⟨#[32]⟩ : ByteArray) = 1 := rfl
    simp only [List.length_cons]; omega
theorem cnt_edges (s : ByteArray) (es : List Edge) : cnt (edgesB s es) = cnt s + es.length := by
  induction es generalizing s with
  | nil => rfl
  | cons e es ih =>
    show cnt (edgesB (edgeB s e) es) = _
    rw [ih]
    unfold edgeB
    rw [cnt_app, cnt_app, cnt_app, cnt_app, cnt_itoa, cnt_itoa]
    have h1 : cnt (⟨#[32]⟩ : ByteArray) = 1 := rfl
    have h2 : cnt (⟨#[62]⟩ : ByteArray) = 0 := rfl
    simp only [List.length_cons]; omega
theorem cnt_deedW (k : Int) : cnt (deedW k) = 0 := by
  have h : ∀ w ∈ deedWs, cnt w = 0 := by
    intro w hw
    simp only [deedWs, List.mem_cons, List.not_mem_nil, or_false] at hw
    rcases hw with rfl | rfl | rfl | rfl | rfl | rfl | rfl | rfl <;> rfl
  unfold deedW
  rw [List.getD_eq_getElem?_getD]
  cases hk : deedWs[(k - 1).toNat]? with
  | none => rfl
  | some w => exact h w (List.mem_of_getElem? hk)
theorem pieces_len (line : ByteArray) : (pieces 32 line).length = cnt line + 1 := by
  simp [pieces, cutP_count, cnt]
theorem line_ok {d : Deed} {line : ByteArray} (h : deedLine d = line) (hne : ¬ line = bs []) : deedOk d = true ∧ cnt line = (lineNums d).length + d.plan.edges.length := by
  unfold deedLine at h
  split at h
  · next hok =>
    refine ⟨hok, ?_⟩
    rw [← h, cnt_edges, cnt_said, cnt_deedW]; omega
  · exact absurd h.symm hne
theorem no_line {d : Deed} {line : ByteArray} (h : deedOk d = true → cnt line ≠ (lineNums d).length + d.plan.edges.length) : rdOf line (some d) = (deed0, false) := by
  unfold rdOf
  simp only
  by_cases hb : line = bs [] ∨ deedLine d ≠ line
  · rw [if_pos hb]
  · obtain ⟨h1, h2⟩ := not_or.1 hb
    obtain ⟨h3, h4⟩ := line_ok (Decidable.not_not.1 h2) h1
    exact absurd h4 (h h3)
theorem cnt_fill {k : Int} {line : ByteArray} {n : List Int} (hk : ¬ k = 1) (hn : n.length = cnt line) : rdOf line (some (fillI k n)) = rdOf line (some (fillS k n)) := by
  have key : ∀ (d : Deed), d.kind = k → d.plan.edges = [] → (lineNums d).length ≠ n.length → rdOf line (some d) = (deed0, false) := by
    intro d hd he hl
    refine no_line fun _ => ?_
    rw [he, ← hn]; simp only [List.length_nil]; omega
  unfold fillI fillS
  by_cases h2 : k = 2
  · subst h2
    by_cases hl : n.length = 2
    · rw [if_pos rfl, if_pos ⟨rfl, hl⟩]
    · rw [if_pos rfl, if_neg (fun h => hl h.2), if_neg (by simp), if_neg (by simp)]
      rw [key _ rfl rfl (by simpa [lineNums, deedNums, ofKind] using fun h => hl h.symm), key _ rfl rfl (by simpa [lineNums, deedNums, ofKind] using fun h => hl h.symm)]
  · rw [if_neg h2, if_neg (show ¬ (k = 2 ∧ n.length = 2) from fun h => h2 h.1)]
    by_cases h3 : k = 3 ∨ k = 4
    · have h1 : ¬ k = 1 := hk
      by_cases hl : n.length = 3
      · rw [if_pos h3, if_pos ⟨h3, hl⟩]
      · have h6 : ¬ (k = 6 ∨ k = 7) := by omega
        rw [if_pos h3, if_neg (show ¬ ((k = 3 ∨ k = 4) ∧ n.length = 3) from fun h => hl h.2), if_neg (show ¬ ((k = 6 ∨ k = 7) ∧ n.length = 1) from fun h => h6 h.1)]
        rw [key _ rfl rfl (by simpa [lineNums, deedNums, ofKind, h1, h2, h3] using fun h => hl h.symm), key _ rfl rfl (by simpa [lineNums, deedNums, ofKind, h1, h2, h3] using fun h => hl h.symm)]
    · rw [if_neg h3, if_neg (show ¬ ((k = 3 ∨ k = 4) ∧ n.length = 3) from fun h => h3 h.1)]
      by_cases h6 : k = 6 ∨ k = 7
      · by_cases hl : n.length = 1
        · rw [if_pos h6, if_pos ⟨h6, hl⟩]
        · rw [if_pos h6, if_neg (show ¬ ((k = 6 ∨ k = 7) ∧ n.length = 1) from fun h => hl h.2)]
          rw [key _ rfl rfl (by simpa [lineNums, deedNums, ofKind, hk, h2, h3, h6] using fun h => hl h.symm), key _ rfl rfl (by simpa [lineNums, deedNums, ofKind, hk, h2, h3, h6] using fun h => hl h.symm)]
      · rw [if_neg h6, if_neg (show ¬ ((k = 6 ∨ k = 7) ∧ n.length = 1) from fun h => h6 h.1)]
theorem get_same (line : ByteArray) : rdOf line (getI line) = rdOf line (getS line) := by
  have hlen := pieces_len line
  unfold getI getS
  simp only
  by_cases hk : kindUp ((pieces 32 line).headD (bs [])) 8 = 1
  · rw [if_pos hk, if_pos hk]
    by_cases h6 : (pieces 32 line).length < 6
    · rw [if_pos h6]
      have e1 : (pieces 32 line).take 6 = pieces 32 line := List.take_of_length_le (by omega)
      have e2 : (pieces 32 line).drop 6 = [] := List.drop_eq_nil_of_le (by omega)
      rw [e1, e2]
      cases hn : numsOf ((pieces 32 line).drop 1) with
      | none => rfl
      | some n =>
        have hl := numsOf_len hn
        rw [List.length_drop] at hl
        simp only [edgesOf]
        rw [if_neg (by omega), no_line]
        · rfl
        · intro _
          simp [lineNums, ofKind, deed0]; omega
    · rw [if_neg h6]
      cases hn : numsOf (((pieces 32 line).take 6).drop 1) with
      | none => cases edgesOf ((pieces 32 line).drop 6) <;> rfl
      | some n =>
        have hl := numsOf_len hn
        rw [List.length_drop, List.length_take] at hl
        cases edgesOf ((pieces 32 line).drop 6) with
        | none => rfl
        | some es =>
          simp only
          rw [if_pos (by omega)]
  · rw [if_neg hk, if_neg hk]
    cases hn : numsOf ((pieces 32 line).drop 1) with
    | none => rfl
    | some n =>
      have hl := numsOf_len hn
      rw [List.length_drop] at hl
      exact cnt_fill hk (by omega)
theorem head_rng {n : List Int} (h : ∀ z ∈ n, 0 ≤ z ∧ z ≤ 1000000000) (k : Nat) : 0 ≤ (n.drop k).headD 0 ∧ (n.drop k).headD 0 ≤ 1000000000 := by
  cases hd : n.drop k with
  | nil => simp
  | cons z zs => exact h z (List.mem_of_mem_drop (by rw [hd]; simp))
theorem i64z : I64 0 := by unfold I64; omega
theorem i64r {z : Int} (h : 0 ≤ z ∧ z ≤ 1000000000) : I64 z := by unfold I64; omega
theorem edgesOf_ok : ∀ {ws : List ByteArray} {l : List Edge}, edgesOf ws = some l → ∀ e ∈ l, e.ok
  | [], l, h => by simp [edgesOf] at h; subst h; simp
  | w :: ws, l, h => by
    unfold edgesOf at h
    split at h
    · cases h
    · next z hz =>
      obtain ⟨l', h', rfl⟩ := Option.map_eq_some_iff.1 h
      intro y hy
      rcases List.mem_cons.1 hy with rfl | hy
      · unfold edgeOf at hz
        split at hz
        · next a b hab =>
          simp only [Option.some.injEq] at hz
          subst hz
          have := numsOf_I64 hab
          have h1 := this a (by simp)
          have h2 := this b (by simp)
          exact ⟨i64r h1, i64r h2⟩
        · cases hz
      · exact edgesOf_ok h' y hy
theorem fillI_ok {k : Int} {n : List Int} (hk : I64 k) (h : ∀ z ∈ n, 0 ≤ z ∧ z ≤ 1000000000) : (fillI k n).ok ∧ (fillI k n).plan.edges = [] := by
  have h0 := i64r (head_rng h 0)
  have h1 := i64r (head_rng h 1)
  have h2 := i64r (head_rng h 2)
  have z := i64z
  rw [List.drop_zero] at h0
  unfold fillI
  split
  · exact ⟨⟨hk, z, ⟨z, z, z, z⟩, z, z, h0, h1⟩, rfl⟩
  · split
    · refine ⟨⟨hk, h0, ⟨z, z, z, z⟩, h1, ?_, z, z⟩, rfl⟩
      simpa [List.drop_drop] using h2
    · split
      · exact ⟨⟨hk, h0, ⟨z, z, z, z⟩, z, z, z, z⟩, rfl⟩
      · exact ⟨⟨hk, z, ⟨z, z, z, z⟩, z, z, z, z⟩, rfl⟩
theorem submitOf_ok {n : List Int} {es : List Edge} (h : ∀ z ∈ n, 0 ≤ z ∧ z ≤ 1000000000) : (submitOf n es).ok := by
  have h0 := i64r (head_rng h 0)
  rw [List.drop_zero] at h0
  exact ⟨i64r (z := 1) (by omega), h0, ⟨i64r (head_rng h 1), i64r (head_rng h 2), i64r (head_rng h 3), i64r (head_rng h 4)⟩, i64z, i64z, i64z, i64z⟩
theorem kind_I64 (w : ByteArray) : I64 (kindUp w 8) := by
  have := kindUp_rng w 8
  unfold I64; omega
theorem getI_ok {line : ByteArray} {d : Deed} (h : getI line = some d) : d.ok ∧ ∀ e ∈ d.plan.edges, e.ok := by
  unfold getI at h
  simp only at h
  split at h
  · split at h
    · cases h
    · split at h
      · next es n he hn =>
        simp only [Option.some.injEq] at h
        subst h
        exact ⟨submitOf_ok (numsOf_I64 hn), edgesOf_ok he⟩
      · cases h
  · obtain ⟨n, hn, rfl⟩ := Option.map_eq_some_iff.1 h
    obtain ⟨h1, h2⟩ := fillI_ok (k := kindUp ((pieces 32 line).headD (bs [])) 8) (kind_I64 _) (numsOf_I64 hn)
    exact ⟨h1, by rw [h2]; simp⟩
theorem deedLine_size {d : Deed} (hd : d.ok) (he : ∀ e ∈ d.plan.edges, e.ok) : (deedLine d).size ≤ 20000 := by
  unfold deedLine
  split
  · next hok =>
    have hf := deedOk_facts hok
    have h1 := edgesB_size (s := saidB (deedW d.kind) (lineNums d)) he
    have h2 := saidB_size (word := deedW d.kind) (lineNums_64 (d := d) hd hf)
    have h3 := lineNums_len d
    have h4 := deedW_size d.kind
    omega
  · decide
theorem getI_long {line : ByteArray} (h : 20000 < line.size) : rdOf line (getI line) = (deed0, false) := by
  cases hg : getI line with
  | none => rfl
  | some d =>
    obtain ⟨h1, h2⟩ := getI_ok hg
    have hne : deedLine d ≠ line := fun e => by
      have := deedLine_size h1 h2
      rw [e] at this; omega
    unfold rdOf
    simp only
    rw [if_pos (.inr hne)]
theorem readDeed_S (line : ByteArray) : readDeed line = if 20000 < line.size then (deed0, false) else rdOf line (getS line) := by
  unfold readDeed
  split
  · next h => exact getI_long h
  · exact get_same line
end Go.Proofs.YtchnllpegfbleaaDoor

/-
  States of a call as data: what slots hold, what is owned, what is borrowed; and traces of what is to be equal. Theory alone.
-/
namespace Go.Proofs.YtchnllpegfbleaaDoor
set_option linter.unusedSimpArgs false
set_option linter.unusedVariables false
open Go.RowKit
universe u

/-! ### Traces: what is to be equal, for the kernel to see in one go -/
inductive Tr : Type 2
  | ok
  | no
  | e0 {α : Type} (a b : α) (k : Tr)
  | e1 {α : Type 1} (a b : α) (k : Tr)
  | fn {α : Type} (f : α → Tr)
  | f1 {α : Type 1} (f : α → Tr)
  | fp (p : Prop) (f : p → Tr)
  | an (a b : Tr)
def Tr.holds : Tr → Prop
  | .ok => True
  | .no => False
  | .e0 a b k => a = b ∧ k.holds
  | .e1 a b k => a = b ∧ k.holds
  | .fn f => ∀ x, (f x).holds
  | .f1 f => ∀ x, (f x).holds
  | .fp _ f => ∀ h, (f h).holds
  | .an a b => a.holds ∧ b.holds
inductive T2 : Type 2
  | ok
  | no (b : Bool)
  | e0 {α : Type} (a : α) (k : T2)
  | e1 {α : Type 1} (a : α) (k : T2)
  | fn {α : Type} (f : α → T2)
  | f1 {α : Type 1} (f : α → T2)
  | fp (p : Prop) (f : p → T2)
  | an (a b : T2)
def Tr.side (c : Bool) : Tr → T2
  | .ok => .ok
  | .no => .no c
  | .e0 a b k => .e0 (cond c a b) (k.side c)
  | .e1 a b k => .e1 (cond c a b) (k.side c)
  | .fn f => .fn fun x => (f x).side c
  | .f1 f => .f1 fun x => (f x).side c
  | .fp p f => .fp p fun h => (f h).side c
  | .an a b => .an (a.side c) (b.side c)
theorem Tr.of_side : ∀ {t : Tr}, t.side true = t.side false → t.holds
  | .ok, _ => trivial
  | .no, h => by simp [Tr.side] at h
  | .e0 a b k, h => by
    simp only [Tr.side, cond_true, cond_false, T2.e0.injEq, heq_eq_eq, true_and] at h
    exact ⟨h.1, Tr.of_side h.2⟩
  | .e1 a b k, h => by
    simp only [Tr.side, cond_true, cond_false, T2.e1.injEq, heq_eq_eq, true_and] at h
    exact ⟨h.1, Tr.of_side h.2⟩
  | .fn f, h => by
    simp only [Tr.side, T2.fn.injEq, heq_eq_eq, true_and] at h
    exact fun x => Tr.of_side (congrFun h x)
  | .f1 f, h => by
    simp only [Tr.side, T2.f1.injEq, heq_eq_eq, true_and] at h
    exact fun x => Tr.of_side (congrFun h x)
  | .fp p f, h => by
    simp only [Tr.side, T2.fp.injEq, heq_eq_eq, true_and] at h
    exact fun x => Tr.of_side (congrFun h x)
  | .an a b, h => by
    simp only [Tr.side, T2.an.injEq] at h
    exact ⟨Tr.of_side h.1, Tr.of_side h.2⟩

/-! ### Values -/
/-- A cell's value: vl, told outright; bo, a Bool told as a term; pt, a pointer into box or range j; rf, the slice j; lt, a slice over the whole of box j. -/
structure Hd where
  ao : Option Addr
  n : Nat
  cap : Nat
def Hd.val (h : Hd) : Value := .slice h.ao h.n h.cap
inductive Sc
  | vl (x : Value)
  | bo (e : Bool)
  | pt (j b k o : Nat)
  | rf (j : Nat) (h : Hd)
  | lt (j b n : Nat)
def Sc.val : Sc → Value
  | .vl x => x
  | .bo e => .bool e
  | .pt _ b k o => .pointer (some ⟨b, k + o, none⟩)
  | .rf _ h => h.val
  | .lt _ b n => .slice (some ⟨b, 0, none⟩) n n
def sc : Value → Sc
  | .bool e => .bo e
  | x => .vl x
theorem sc_val (x : Value) : (sc x).val = x := by
  unfold sc; split <;> rfl
theorem Sl.hd {α : Type} [Shape α] {w : World} {v : Value} {xs : List α} {fp : List Nat} (h : Sl w v xs fp) : ∃ hd : Hd, v = hd.val ∧ hd.n = xs.length := by
  obtain ⟨ao, cap, rfl, _⟩ := h
  exact ⟨⟨ao, xs.length, cap⟩, rfl, rfl⟩
inductive TV
  | ce (x : Sc)
  | ag (l : List Sc)
def TV.val : TV → Value
  | .ce x => x.val
  | .ag l => .agg (l.map Sc.val).toArray
inductive SV
  | on (t : TV)
  | tu (l : List TV)
def SV.val : SV → Value
  | .on t => t.val
  | .tu l => .tuple (l.map TV.val).toArray

/-! ### How a value's cells stand: leaves -/
inductive Lf : Type 1
  | v (x : Value)
  | s (β : Type) (i : Shape β) (ys : List β)
def Cells (w : World) : List Value → List Lf → List Nat → Prop
  | [], [], fp => fp = []
  | c :: cs, .v u :: ls, fp => c = u ∧ Cells w cs ls fp
  | c :: cs, .s β _ ys :: ls, fp => ∃ f1 f2, Sl w c ys f1 ∧ Cells w cs ls f2 ∧ fp = f1 ++ f2
  | _, _, _ => False
class Dsh (α : Type) extends Shape α where
  lv : α → List Lf
  good : α → Prop
  out : ∀ {w cs x fp}, C w cs x fp → good x ∧ Cells w cs (lv x) fp
  inn : ∀ {w cs x fp}, good x → Cells w cs (lv x) fp → C w cs x fp

/-! ### What is borrowed; what is owned -/
/-- What is known of the world beside, and lasts. -/
structure Gr where
  p : World → Prop
  up : ∀ {w w' : World}, Below w.heap.size w w' → p w → p w'
def Gin (G : Option Gr) (w : World) : Prop :=
  match G with
  | none => True
  | some g => g.p w
theorem Gin.up {G : Option Gr} {w w' : World} (h : Gin G w) (hb : Below w.heap.size w w') : Gin G w' := by
  cases G with
  | none => trivial
  | some g => exact g.up hb h
inductive Bo : Type 1
  | rg (b k : Nat) (cs : List Sc)
  | el (h : Hd) (z n b k : Nat) (cs : List Sc)
  | sl {α : Type} (i : Shape α) (h : Hd) (xs : List α) (fp : List Nat)
  | gr (g : Gr)
  | dv (h2 h1 : Hd) (a sz : Nat)
def Bo.holds (w : World) : Bo → Prop
  | .rg b k cs => w.rangeAt b k (cs.map Sc.val)
  | .el h z n b k cs => PA h.val z n b k ∧ w.rangeAt b k (cs.map Sc.val)
  | .sl _ h xs fp => Sl w h.val xs fp
  | .gr g => g.p w
  | .dv h2 h1 a sz => h2.val = sliced h1.ao a h1.n h1.cap sz
theorem Bo.up {w w' : World} (hb : Below w.heap.size w w') : ∀ {b : Bo}, b.holds w → b.holds w'
  | .rg _ _ _, h => rangeAt_below h hb
  | .el _ _ _ _ _ _, h => ⟨h.1, rangeAt_below h.2 hb⟩
  | .sl _ _ _ _, h => Sl.below h hb
  | .gr g, h => g.up hb h
  | .dv _ _ _ _, h => h
inductive Ob : Type 1
  | bx (b : Nat) (pre : List Value) (cs : List Sc) (post : List Value) (t : TypeId)
  | own {α : Type} (i : Shape α) (h : Hd) (xs : List α) (fp : List Nat)
  | row {α : Type} (i : Shape α) (e : TypeId) (h : Hd) (xs : List α) (fe : List Nat)
  | rs {α : Type} (i : Shape α) (h : Hd) (b : Nat) (pre post : List Value) (xs : List α) (n : Nat) (fr : List Nat) (r : Nat)
  | raw (r : Res)
def Ob.res : Ob → Res
  | .bx b pre cs post t => Res.bx b (pre ++ cs.map Sc.val ++ post) t
  | .own _ h xs fp => Res.own h.val xs fp
  | .row _ e h xs fe => Res.row e h.val xs fe
  | .rs _ h b pre post xs n fr _ => Res.rest h.val b pre post xs n fr
  | .raw r => r
structure S where
  E : List (Nat × SV)
  O : List (Nat × Ob)
  B : List (Nat × Bool × Bo)
  nx : Nat
def S.rs (s : S) : List Res := s.O.map fun p => p.2.res
def lku {α : Type u} : List (Nat × α) → Nat → Option α
  | [], _ => none
  | (t, v) :: E, x => cond (Nat.beq x t) (some v) (lku E x)
theorem lku_mem {α : Type u} : ∀ {E : List (Nat × α)} {x : Nat} {v : α}, lku E x = some v → (x, v) ∈ E
  | [], _, _, h => by cases h
  | (t, v) :: E, x, u, h => by
    unfold lku at h
    cases hb : Nat.beq x t with
    | true => rw [hb] at h; simp only [cond_true, Option.some.injEq] at h; subst h; rw [Nat.eq_of_beq_eq_true hb]; exact List.mem_cons_self
    | false => rw [hb] at h; exact List.mem_cons_of_mem _ (lku_mem h)
/-- What slots hold. -/
def Fr (E : List (Nat × SV)) (f : Nat → Value) : Prop := ∀ t x, lku E t = some x → f t = x.val
def Facts (w0 W : World) (B : List (Nat × Bool × Bo)) : Prop := ∀ e ∈ B, e.2.2.holds (cond e.2.1 w0 W)
theorem Facts.up {w0 W W' : World} {B : List (Nat × Bool × Bo)} (h : Facts w0 W B) (hb : Below W.heap.size W W') : Facts w0 W' B := by
  intro e he
  have := h e he
  cases hl : e.2.1 with
  | true => rw [hl] at this; exact this
  | false => rw [hl] at this; exact Bo.up hb this
theorem Facts.now {w0 W : World} {B : List (Nat × Bool × Bo)} (h : Facts w0 W B) (hb : Below w0.heap.size w0 W) {j : Nat} {l : Bool} {b : Bo} (hj : lku B j = some (l, b)) : b.holds W := by
  have := h _ (lku_mem hj)
  cases l with
  | true => exact Bo.up hb this
  | false => exact this
/-- What lasts, when something is written. -/
def lasting : List (Nat × Bool × Bo) → List (Nat × Bool × Bo)
  | [] => []
  | (j, l, b) :: B => cond l ((j, l, b) :: lasting B) (lasting B)
theorem Facts.lasting {w0 W W' : World} : ∀ {B : List (Nat × Bool × Bo)}, Facts w0 W B → Facts w0 W' (lasting B)
  | [], _ => fun e he => by cases he
  | (j, l, b) :: B, h => by
    have ih := Facts.lasting (W' := W') (fun e he => h e (List.mem_cons_of_mem _ he))
    cases l with
    | true =>
      intro e he
      rcases List.mem_cons.1 he with rfl | he
      · exact h _ List.mem_cons_self
      · exact ih e he
    | false => exact ih
structure Den (w0 : World) (s : S) (f : Nat → Value) (W : World) : Prop where
  fr : Fr s.E f
  st : St w0 W s.rs
  fa : Facts w0 W s.B
theorem Fr.put {E : List (Nat × SV)} {f : Nat → Value} (h : Fr E f) (d : Nat) (x : SV) : Fr ((d, x) :: E) (putF f (some d) x.val) := by
  intro t u hx
  unfold lku at hx
  simp only [putF, upd]
  cases hb : Nat.beq t d with
  | true => rw [hb] at hx; simp only [cond_true, Option.some.injEq] at hx; rw [← hx]; rfl
  | false => rw [hb] at hx; exact h t u hx
theorem Fr.know {E : List (Nat × SV)} {f : Nat → Value} (h : Fr E f) (d : Nat) (x : SV) (he : f d = x.val) : Fr ((d, x) :: E) f := by
  intro t u hx
  unfold lku at hx
  cases hb : Nat.beq t d with
  | true => rw [hb] at hx; simp only [cond_true, Option.some.injEq] at hx; rw [← hx, Nat.eq_of_beq_eq_true hb]; exact he
  | false => rw [hb] at hx; exact h t u hx
end Go.Proofs.YtchnllpegfbleaaDoor

/-
  Contracts as data; what is told of a walk, as data. Theory alone.
-/
namespace Go.Proofs.YtchnllpegfbleaaDoor
set_option linter.unusedSimpArgs false
set_option linter.unusedVariables false
open Go.RowKit
universe u

/-- Cells that stand for leaves, all they lead to being owned. -/
def Res.pc (cs : List Value) (ls : List Lf) (fp : List Nat) : Res where
  fp := fp
  holds := fun W => Cells W cs ls fp ∧ ∀ b ∈ fp, Wr W b
  loc := by
    intro W W' hs hb ⟨h, hw⟩
    refine ⟨?_, fun c hc => (hw c hc).loc (hb c hc)⟩
    clear hw
    induction ls generalizing cs fp with
    | nil => cases cs with
      | nil => exact h
      | cons c cs => exact h.elim
    | cons l ls ih =>
      cases cs with
      | nil => cases l <;> exact h.elim
      | cons c cs =>
        cases l with
        | v x => exact ⟨h.1, ih cs fp hb h.2⟩
        | s β i ys =>
          obtain ⟨f1, f2, h1, h2, rfl⟩ := h
          exact ⟨f1, f2, h1.loc (fun b hm o => cell_of_heap (hb b (by simp [hm])) o) hs, ih cs f2 (fun b hm => hb b (by simp [hm])) h2, rfl⟩
  wr := fun h => h.2
inductive Par : Type 1
  | v (x : Value)
  | b (e : Bool)
  | st {α : Type} (i : Dsh α) (x : α)
  | sl {β : Type} (i : Shape β) (xs : List β)
def Par.at (w : World) (u : Value) : Par → Prop
  | .v x => u = x
  | .b e => u = .bool e
  | .st i x => ∃ cs fp, u = .agg cs.toArray ∧ i.C w cs x fp
  | .sl i xs => ∃ fp, Sl w u xs fp
def Pars (w : World) : List Value → List Par → Prop
  | [], [] => True
  | u :: us, p :: ps => p.at w u ∧ Pars w us ps
  | _, _ => False
inductive Rk : Type 1
  | v (x : Value)
  | own {α : Type} (i : Dsh α) (x : α)
  | sl {β : Type} (i : Shape β) (xs : List β)
def Rk.at (u : Value) (rs : List Res) : Rk → Prop
  | .v x => u = x ∧ rs = []
  | .own i x => ∃ cs fp, u = .agg cs.toArray ∧ rs = [@Res.cs _ i.toShape cs x fp]
  | .sl i xs => ∃ fp, rs = [Res.own u xs fp]
def Rks : List Value → List Rk → List Res → Prop
  | [], [], rs => rs = []
  | u :: us, k :: ks, rs => ∃ r1 r2, k.at u r1 ∧ Rks us ks r2 ∧ rs = r1 ++ r2
  | _, _, _ => False
def rval : List Value → Value
  | [u] => u
  | us => .tuple us.toArray
/-- What a function is handed, and what it hands back. -/
structure Cg (P : Program) (F : FuncId) (G : Option Gr) (ps : List Par) {A : Type} (R : A → Prop) (rk : A → List Rk) : Prop where
  run : ∀ w us, Gin G w → Pars w us ps → Calls P F us.toArray w fun e W => ∃ a vs rs, R a ∧ e = .returned (rval vs) ∧ Rks vs (rk a) rs ∧ St w W rs
abbrev Ct (P : Program) (F : FuncId) (ps : List Par) {A : Type} (R : A → Prop) (rk : A → List Rk) : Prop := Cg P F none ps R rk
abbrev Ct1 (P : Program) (F : FuncId) (ps : List Par) (rk : List Rk) : Prop := Ct P F ps (fun _ : Unit => True) (fun _ => rk)
/-- A function that is handed a pointer to what is all its caller's own, besides: what it leaves there. -/
structure Cm (P : Program) (F : FuncId) (ps : List Par) {α : Type} (i : Dsh α) (x : α) {A : Type} (R : A → Prop) (y : A → α) (rk : A → List Rk) : Prop where
  run : ∀ w W0 b pre post t cs fp us rs, St w W0 (Res.bx b (pre ++ cs ++ post) t :: Res.pc cs (i.lv x) fp :: rs) → Pars w us ps → Calls P F (Value.pointer (some ⟨b, pre.length, none⟩) :: us).toArray W0 fun e W =>
    ∃ a vs cs' fp' rr, R a ∧ e = .returned (rval vs) ∧ Rks vs (rk a) rr ∧ St w W (Res.bx b (pre ++ cs' ++ post) t :: Res.pc cs' (i.lv (y a)) fp' :: (rr ++ rs))
def lns : List Lf → Prop
  | [] => True
  | .v _ :: ls => lns ls
  | .s _ _ ys :: ls => ys.length ≤ 9223372036854775807 ∧ lns ls
def Rk.gd : Rk → Prop
  | .v _ => True
  | .own i x => i.good x ∧ lns (i.lv x)
  | .sl _ xs => xs.length ≤ 9223372036854775807
def gds : List Rk → Prop
  | [] => True
  | .v _ :: ks => gds ks
  | k :: ks => k.gd ∧ gds ks
/-- What is known of what is handed in. -/
def gin : List Par → Prop
  | [] => True
  | .st i x :: ps => (i.good x ∧ lns (i.lv x)) ∧ gin ps
  | .sl _ xs :: ps => xs.length ≤ 9223372036854775807 ∧ gin ps
  | _ :: ps => gin ps
/-- What is to be shown of what is handed in. -/
def gps : List Par → Prop
  | [] => True
  | .st i x :: ps => i.good x ∧ gps ps
  | _ :: ps => gps ps

/-! ### States of loops: what changes -/
/-- A cell, told by numbers of what is owned. -/
inductive Tc
  | v (x : Value)
  | b (e : Bool)
  | p (j o : Nat)
  | r (j : Nat)
inductive Tv
  | c (x : Tc)
  | a (l : List Tc)
inductive To : Type 1
  | own {α : Type} (i : Shape α) (xs : List α)
  | row {α : Type} (i : Shape α) (e : TypeId) (xs : List α)
  | bx (cs : List Tc)

/-! ### Operations of other kinds, by what is shown of them -/
def BOk (P : Program) (b : BinOp) (x y z : Value) : Prop := ∀ {n : Nat} {f : Nat → Value} {W : World} {Q : Exit → Act → World → Prop} {K : Value → World → Prop} {d : Option Tmp} {ty : TypeId} {pos : String} {af : Array Go.Edge} {g : Option (Nat × Bool)} {t t' : TypeId} {xo yo : Operand}, ev n f xo = x → ev n f yo = y → K z W → Stp P n ⟨d, .binOp b t xo yo t', ty, pos, af, g⟩ f W Q K
def NOk (P : Program) (t : TypeId) (x : Value) (r : Bool) : Prop := ∀ {n : Nat} {f : Nat → Value} {W : World} {Q : Exit → Act → World → Prop} {K : Value → World → Prop} {d : Option Tmp} {ty : TypeId} {pos : String} {af : Array Go.Edge} {g : Option (Nat × Bool)} {t' : TypeId} {xo : Operand}, ev n f xo = x → K (.bool r) W → Stp P n ⟨d, .binOp .neq t xo (.const .nilIface) t', ty, pos, af, g⟩ f W Q K
def UOk (P : Program) (u : UnOp) (x z : Value) : Prop := ∀ {n : Nat} {f : Nat → Value} {W : World} {Q : Exit → Act → World → Prop} {K : Value → World → Prop} {d : Option Tmp} {ty : TypeId} {pos : String} {af : Array Go.Edge} {g : Option (Nat × Bool)} {t : TypeId} {xo : Operand}, ev n f xo = x → K z W → Stp P n ⟨d, .unOp u t xo, ty, pos, af, g⟩ f W Q K
def COk (P : Program) (t t' : TypeId) (x z : Value) : Prop := ∀ {n : Nat} {f : Nat → Value} {W : World} {Q : Exit → Act → World → Prop} {K : Value → World → Prop} {d : Option Tmp} {ty : TypeId} {pos : String} {af : Array Go.Edge} {g : Option (Nat × Bool)} {xo : Operand}, ev n f xo = x → K z W → Stp P n ⟨d, .convert t t' xo, ty, pos, af, g⟩ f W Q K
def XOk (P : Program) (t : TypeId) (x y z : Value) : Prop := ∀ {n : Nat} {f : Nat → Value} {W : World} {Q : Exit → Act → World → Prop} {K : Value → World → Prop} {d : Option Tmp} {ty : TypeId} {pos : String} {af : Array Go.Edge} {g : Option (Nat × Bool)} {xo yo : Operand}, ev n f xo = x → ev n f yo = y → K z W → Stp P n ⟨d, .index t xo yo, ty, pos, af, g⟩ f W Q K
def LOk (P : Program) (t : TypeId) (x : Value) (lo hi : Option Value) (z : Value) : Prop := ∀ {n : Nat} {f : Nat → Value} {W : World} {Q : Exit → Act → World → Prop} {K : Value → World → Prop} {d : Option Tmp} {ty : TypeId} {pos : String} {af : Array Go.Edge} {g : Option (Nat × Bool)} {xo : Operand} {lo' hi' : Option Operand}, ev n f xo = x → lo'.map (ev n f) = lo → hi'.map (ev n f) = hi → K z W → Stp P n ⟨d, .slice t xo lo' hi' none, ty, pos, af, g⟩ f W Q K
/-- A loop, in its round: what its head is, and its measure now. -/
structure Tok {Γ : Type} (J : Γ → Prop) (m : Γ → Nat) (c : Nat)
structure Lsp : Type 1 where
  {Γ : Type}
  J : Γ → Prop
  m : Γ → Nat
  c : Nat
/-- What is told of a walk: at what it is asked, in its order. -/
inductive D (P : Program) {A : Type} (R : A → Prop) : Type 1
  | sp (p : Prop) (i : Decidable p) (t : p → D P R) (f : ¬ p → D P R)
  | sn (p : Prop) (i : Decidable p) (t : ¬ p → D P R) (f : p → D P R)
  | sb (e : Bool) (t : e = true → D P R) (f : e = false → D P R)
  | kn (e r : Bool) (h : e = r) (k : D P R)
  | ad (x y : Int) (h : I64 (x + y)) (k : D P R)
  | su (x y : Int) (h : I64 (x - y)) (k : D P R)
  | mu (x y : Int) (h : I64 (x * y)) (k : D P R)
  | qu (x y : Int) (h : (0 ≤ x ∧ x ≤ 9223372036854775807) ∧ 0 < y) (k : D P R)
  | ix {α : Type} (i : Dsh α) (xs : List α) (n : Nat) (x : α) (h : xs[n]? = some x) (e : Int) (he : e = n) (k : i.good x → D P R)
  | iy (j n : Nat) (e : Int) (he : e = n) (k : D P R)
  | cl {ps : List Par} {A' : Type} {R' : A' → Prop} {rk : A' → List Rk} {G : Option Gr} (F : FuncId) {fn : Func} (hf : P.funcs[F]? = some fn) (h : Cg P F G ps R' rk) (hg : gps ps) (k : ∀ a, R' a → gds (rk a) → D P R)
  | lp {Γ : Type} (J : Γ → Prop) (m : Γ → Nat) (ks ko kb : List Nat) (TE : Γ → List (Nat × Tv)) (TO : Γ → List (Nat × To)) (g : Γ) (h : J g) (sg : List (Nat × Nat)) (k : ∀ g, J g → Tok J m (m g) → D P R)
  | nx {Γ : Type} {J : Γ → Prop} {m : Γ → Nat} {c : Nat} (t : Tok J m c) (g : Γ) (h1 : J g) (h2 : m g < c) (sg : List (Nat × Nat))
  | rt (a : A) (h : R a)
  | ex {α : Type} {p : α → Prop} (h : ∃ x, p x) (k : ∀ x, p x → D P R)
  | oc {p q : Prop} (h : p ∨ q) (a : p → D P R) (b : q → D P R)
  | ab (h : False)
  | em {α : Type} (i : Shape α) (k : D P R)
  | li {α : Type} (i : Dsh α) (t : Nat) (ys : List α) (hne : ys ≠ []) (hl : ys.length ≤ 1000000) (h : ∀ y ∈ ys, i.good y) (k : D P R)
  | rd {α : Type} (i : Shape α) (r j : Nat) (xs : List α) (n : Nat) (h : n ≤ xs.length) (k : D P R)
  | td {α : Type} (i : Shape α) (xs : List α) (a b : Nat) (h : a ≤ b ∧ b ≤ xs.length) (ea eb : Int) (hea : ea = a) (heb : eb = b) (k : D P R)
  | ap {α : Type} (i : Dsh α) (xs ys : List α) (h : ∀ y ∈ ys, i.good y) (bytes : Nat) (h63 : xs.length + ys.length ≤ maxLen) (hby : (xs.length + ys.length) * bytes ≤ 140737488355328) (k : D P R)
  | cq {ps : List Par} {rk : List Rk} {G : Option Gr} (F : FuncId) {fn : Func} (hf : P.funcs[F]? = some fn) (h : Cg P F G ps (fun _ : Unit => True) (fun _ => rk)) (hg : gps ps) (k : gds rk → D P R)
  | sa (x y : ByteArray) (h : x.size + y.size ≤ 9223372036854775807) (k : D P R)
  | qe {cs ds : List Value} {t : TypeId} {b : Bool} (h : SEq P t cs ds b) (hg : P.eqGuardType P.depth t = false) (k : D P R)
  | tk {α : Type} (i : Shape α) (xs : List α) (n : Nat) (h : n ≤ xs.length) (e : Int) (he : e = n) (k : D P R)
  | dp {α : Type} (i : Shape α) (xs : List α) (n : Nat) (h : n ≤ xs.length) (e : Int) (he : e = n) (k : D P R)
  | as {α : Type} (i : Shape α) (hp : Plain α) (xs ys : List α) (bytes : Nat) (h63 : xs.length + ys.length ≤ maxLen) (hby : (xs.length + ys.length) * bytes ≤ 140737488355328) (k : D P R)
  | pb (b : BinOp) {x y z : Value} (h : BOk P b x y z) (k : D P R)
  | pn (t : TypeId) (x : Value) (r : Bool) (h : NOk P t x r) (k : D P R)
  | pu (u : UnOp) {x z : Value} (h : UOk P u x z) (k : D P R)
  | pc {t t' : TypeId} {x z : Value} (h : COk P t t' x z) (k : D P R)
  | px {t : TypeId} {x y z : Value} (h : XOk P t x y z) (k : D P R)
  | pl {t : TypeId} {x : Value} {lo hi : Option Value} {z : Value} (h : LOk P t x lo hi z) (k : D P R)
  | so (bs : List UInt8) (k : D P R)
  | le {α : Type} (i : Dsh α) (j : Nat) (xs : List α) (n : Nat) (x : α) (h : xs[n]? = some x) (k : i.good x → D P R)
  | gi {α : Type} (i : Dsh α) (j : Nat) (xs : List α) (y : α) (h : i.good y) (k : D P R)
  | il (n : Nat) (e : Int) (he : e = n) (k : D P R)
  | cm {ps : List Par} {α : Type} {i : Dsh α} {x : α} {A' : Type} {R' : A' → Prop} {y : A' → α} {rk : A' → List Rk} (F : FuncId) {fn : Func} (hf : P.funcs[F]? = some fn) (h : Cm P F ps i x R' y rk) (hg : gps ps) (k : ∀ a, R' a → lns (i.lv (y a)) → gds (rk a) → D P R)
  | rw {α : Type} (i : Shape α) (j : Nat) (xs ys : List α) (h : xs = ys) (k : D P R)
  | r0 {α : Type} (i : Shape α) (e : TypeId) (k : D P R)
  | dq {α : Type} (i : Shape α) (hp : Plain α) (xs : List α) (n : Nat) (h : n ≤ xs.length) (e : Int) (he : e = n) (k : D P R)
  | rv (t : Nat) (x : Value) {y : Value} (h : y = x) (k : D P R)
  | rn {α : Type} (i : Shape α) (e : TypeId) (t : Nat) (k : D P R)
section
variable {P : Program} {A : Type} {R : A → Prop}
/-- What is asked of the reader alone, ahead of the next step. -/
def nrm : D P R → (D P R → Tr) → Tr
  | .ex (p := p) _ k, K => .fn fun x => .fp (p x) fun hx => nrm (k x hx) K
  | .oc (p := p) (q := q) _ a b, K => .an (.fp p fun h => nrm (a h) K) (.fp q fun h => nrm (b h) K)
  | .ab _, _ => .ok
  | d, K => K d
theorem nrm_ok {G : Prop} : ∀ {d : D P R} {K : D P R → Tr}, (nrm d K).holds → (∀ d', (K d').holds → G) → G := by
  intro d
  induction d with
  | ex h k ih =>
    intro K hh kk
    obtain ⟨x, hx⟩ := h
    exact ih x hx (hh x hx) kk
  | oc h a b iha ihb =>
    intro K hh kk
    rcases h with h | h
    · exact iha h (hh.1 h) kk
    · exact ihb h (hh.2 h) kk
  | ab h => exact fun _ _ => h.elim
  | _ => exact fun hh kk => kk _ hh
/-- A Bool, told. -/
def bl (c : Sc) (d : D P R) (K : Bool → D P R → Tr) : Tr :=
  match c with
  | .vl (.bool true) => K true d
  | .vl (.bool false) => K false d
  | .bo e => nrm d fun d => match d with
    | .sp p i t f => .e0 e (@decide p i) (.an (.fp p fun h => K true (t h)) (.fp (¬ p) fun h => K false (f h)))
    | .sn p i t f => .e0 e (!@decide p i) (.an (.fp (¬ p) fun h => K true (t h)) (.fp p fun h => K false (f h)))
    | .sb e' t f => .e0 e e' (.an (.fp (e' = true) fun h => K true (t h)) (.fp (e' = false) fun h => K false (f h)))
    | .kn e' r _ k => .e0 e e' (K r k)
    | _ => .no
  | _ => .no
theorem bl_ok {G : Prop} {c : Sc} {d : D P R} {K : Bool → D P R → Tr} (h : (bl c d K).holds) (k : ∀ r d', c.val = .bool r → (K r d').holds → G) : G := by
  unfold bl at h
  split at h
  · exact k true _ rfl h
  · exact k false _ rfl h
  · next e =>
    refine nrm_ok h fun d' h => ?_
    split at h
    · next p i t f =>
      obtain ⟨rfl, h1, h2⟩ := h
      by_cases hp : p
      · exact k true _ (by simp [Sc.val, hp]) (h1 hp)
      · exact k false _ (by simp [Sc.val, hp]) (h2 hp)
    · next p i t f =>
      obtain ⟨rfl, h1, h2⟩ := h
      by_cases hp : p
      · exact k false _ (by simp [Sc.val, hp]) (h2 hp)
      · exact k true _ (by simp [Sc.val, hp]) (h1 hp)
    · next e' t f =>
      obtain ⟨rfl, h1, h2⟩ := h
      cases he : e
      · exact k false _ (by rw [he]; rfl) (h2 he)
      · exact k true _ (by rw [he]; rfl) (h1 he)
    · next e' r hr kk =>
      obtain ⟨rfl, h1⟩ := h
      exact k r _ (by simp [Sc.val, hr]) h1
    · exact h.elim
  · exact h.elim
end
end Go.Proofs.YtchnllpegfbleaaDoor

/-
  One operation, reckoned: those that only read. Theory alone.
-/
namespace Go.Proofs.YtchnllpegfbleaaDoor
set_option linter.unusedSimpArgs false
set_option linter.unusedVariables false
set_option maxHeartbeats 1000000
open Go.RowKit
universe u

structure Dat : Type 1 where
  {α : Type}
  i : Shape α
  xs : List α
/-- The slice j, as it stands: does it last, its head, its elements. -/
def slOf (s : S) (j : Nat) : Option (Bool × Hd × Dat) :=
  match lku s.O j with
  | some (.own i h xs _) => some (false, h, ⟨i, xs⟩)
  | some (.row i _ h xs _) => some (false, h, ⟨i, xs⟩)
  | some _ => none
  | none => match lku s.B j with
    | some (l, .sl i h xs _) => some (l, h, ⟨i, xs⟩)
    | _ => none
/-- What is known of the world beside. -/
def grT (s : S) (G : Option Gr) (k : Tr) : Tr :=
  match G with
  | none => k
  | some g => match lku s.B 999999 with
    | some (_, .gr g') => .e0 g' g k
    | _ => .no
theorem grT_ok {s : S} {G : Option Gr} {k : Tr} {w0 W : World} (h : (grT s G k).holds) (hb : Below w0.heap.size w0 W) (fa : Facts w0 W s.B) : Gin G W ∧ k.holds := by
  cases G with
  | none => exact ⟨trivial, h⟩
  | some g =>
    unfold grT at h
    simp only at h
    split at h
    · next l g' hj =>
      obtain ⟨rfl, hk⟩ := h
      exact ⟨fa.now hb hj, hk⟩
    · exact h.elim
theorem mem_res {O : List (Nat × Ob)} {j : Nat} {o : Ob} (h : lku O j = some o) : o.res ∈ O.map fun p => p.2.res := List.mem_map.2 ⟨_, lku_mem h, rfl⟩
theorem slOf_ok {s : S} {j : Nat} {l : Bool} {h : Hd} {d : Dat} {w0 W : World} (e : slOf s j = some (l, h, d)) (st : St w0 W s.rs) (fa : Facts w0 W s.B) : ∃ fp, @Sl d.α d.i (cond l w0 W) h.val d.xs fp := by
  unfold slOf at e
  split at e
  · next i h' xs fp hj =>
    simp only [Option.some.injEq, Prod.mk.injEq] at e
    obtain ⟨rfl, rfl, rfl⟩ := e
    exact ⟨_, own_Sl (st.holds _ (mem_res hj))⟩
  · next i te h' xs fp hj =>
    simp only [Option.some.injEq, Prod.mk.injEq] at e
    obtain ⟨rfl, rfl, rfl⟩ := e
    exact ⟨_, row_Sl (st.holds _ (mem_res hj))⟩
  · cases e
  · split at e
    · next l' i h' xs fp hj =>
      simp only [Option.some.injEq, Prod.mk.injEq] at e
      obtain ⟨rfl, rfl, rfl⟩ := e
      exact ⟨fp, fa _ (lku_mem hj)⟩
    · cases e
/-- Cells of box or range j. -/
def rgOf (s : S) (j : Nat) : Option (Nat × Nat × List Sc) :=
  match lku s.O j with
  | some (.bx b pre cs _ _) => some (b, pre.length, cs)
  | some _ => none
  | none => match lku s.B j with
    | some (_, .rg b k cs) => some (b, k, cs)
    | some (_, .el _ _ _ b k cs) => some (b, k, cs)
    | _ => none
theorem rgOf_ok {s : S} {j b k : Nat} {cs : List Sc} {w0 W : World} (e : rgOf s j = some (b, k, cs)) (st : St w0 W s.rs) (fa : Facts w0 W s.B) : W.rangeAt b k (cs.map Sc.val) := by
  unfold rgOf at e
  split at e
  · next hj =>
    simp only [Option.some.injEq, Prod.mk.injEq] at e
    obtain ⟨rfl, rfl, rfl⟩ := e
    exact range_lent (st.holds _ (mem_res hj))
  · cases e
  · split at e
    · next hj =>
      simp only [Option.some.injEq, Prod.mk.injEq] at e
      obtain ⟨rfl, rfl, rfl⟩ := e
      exact fa.now st.below hj
    · next hj =>
      simp only [Option.some.injEq, Prod.mk.injEq] at e
      obtain ⟨rfl, rfl, rfl⟩ := e
      exact (fa.now st.below hj).2
    · cases e

section
variable {P : Program} {A : Type} {R : A → Prop}
/-- A value's cells, told by its leaves: what is borrowed. -/
def leaves (l : Bool) : List Lf → S → (List Sc → S → Tr) → Tr
  | [], s, K => K [] s
  | .v x :: ls, s, K => leaves l ls s fun cs s => K (sc x :: cs) s
  | .s _ i ys :: ls, s, K => .fn fun g : Hd × List Nat => leaves l ls ⟨s.E, s.O, (s.nx, l, .sl i g.1 ys g.2) :: s.B, s.nx + 1⟩ fun cs s' => K (.rf s.nx g.1 :: cs) s'
theorem leaves_ok {G : Prop} {l : Bool} {w0 W : World} : ∀ {ls : List Lf} {s : S} {K : List Sc → S → Tr} {cs : List Value} {fp : List Nat}, (leaves l ls s K).holds → Cells (cond l w0 W) cs ls fp → Facts w0 W s.B →
    (∀ scs s', (K scs s').holds → scs.map Sc.val = cs → s'.E = s.E → s'.O = s.O → Facts w0 W s'.B → G) → G
  | [], s, K, [], fp, h, hc, fa, k => k [] s h rfl rfl rfl fa
  | [], s, K, c :: cs, fp, h, hc, fa, k => hc.elim
  | .v x :: ls, s, K, [], fp, h, hc, fa, k => hc.elim
  | .s _ _ _ :: ls, s, K, [], fp, h, hc, fa, k => hc.elim
  | .v x :: ls, s, K, c :: cs, fp, h, hc, fa, k => by
    refine leaves_ok (K := fun cs s => K (sc x :: cs) s) h hc.2 fa fun scs s' h' e1 e2 e3 fa' => k _ s' h' ?_ e2 e3 fa'
    rw [List.map_cons, sc_val, e1, hc.1]
  | .s _ i ys :: ls, s, K, c :: cs, fp, h, hc, fa, k => by
    obtain ⟨f1, f2, h1, h2, _⟩ := hc
    obtain ⟨hd, rfl, hn⟩ := h1.hd
    refine leaves_ok (K := fun cs s' => K (.rf s.nx hd :: cs) s') (h (hd, f1)) h2 ?_ fun scs s' h' e1 e2 e3 fa' => k _ s' h' ?_ e2 e3 fa'
    · intro e he
      rcases List.mem_cons.1 he with rfl | he
      · exact h1
      · exact fa e he
    · rw [List.map_cons, e1]; rfl
/-- A cell that is a slice: does it stand for ys? -/
def slT {α : Type} (s : S) (c : Sc) (i : Shape α) (ys : List α) (k : Tr) : Tr :=
  match c with
  | .rf j h => match slOf s j with
    | some (_, h', d) => .e0 h h' (.e1 d ⟨i, ys⟩ k)
    | none => .no
  | .vl (.slice none 0 0) => .e1 (⟨i, []⟩ : Dat) ⟨i, ys⟩ k
  | _ => .no
theorem slT_ok {α : Type} {s : S} {c : Sc} {i : Shape α} {ys : List α} {k : Tr} {w0 W : World} (h : (slT s c i ys k).holds) (st : St w0 W s.rs) (fa : Facts w0 W s.B) : (∃ fp, Sl W c.val ys fp) ∧ k.holds := by
  unfold slT at h
  split at h
  · next j hd =>
    split at h
    · next l h' d hj =>
      obtain ⟨rfl, rfl, hk⟩ := h
      obtain ⟨fp, hs⟩ := slOf_ok hj st fa
      refine ⟨⟨fp, ?_⟩, hk⟩
      cases l with
      | true => exact Sl.below hs st.below
      | false => exact hs
    · exact h.elim
  · obtain ⟨h1, hk⟩ := h
    simp only [Dat.mk.injEq, heq_eq_eq, true_and] at h1
    subst h1
    exact ⟨⟨[], nil_Sl⟩, hk⟩
  · exact h.elim
def cellsT (s : S) : List Sc → List Lf → Tr → Tr
  | [], [], k => k
  | c :: cs, .v u :: ls, k => .e0 c.val u (cellsT s cs ls k)
  | c :: cs, .s _ i ys :: ls, k => slT s c i ys (cellsT s cs ls k)
  | _, _, _ => .no
theorem cellsT_ok {s : S} {w0 W : World} (st : St w0 W s.rs) (fa : Facts w0 W s.B) : ∀ {cs : List Sc} {ls : List Lf} {k : Tr}, (cellsT s cs ls k).holds → (∃ fp, Cells W (cs.map Sc.val) ls fp) ∧ k.holds
  | [], [], k, h => ⟨⟨[], rfl⟩, h⟩
  | c :: cs, .v u :: ls, k, h => by
    obtain ⟨h1, h2⟩ := h
    obtain ⟨⟨fp, h3⟩, hk⟩ := cellsT_ok st fa h2
    exact ⟨⟨fp, h1, h3⟩, hk⟩
  | c :: cs, .s _ i ys :: ls, k, h => by
    obtain ⟨⟨f1, h1⟩, h2⟩ := slT_ok h st fa
    obtain ⟨⟨f2, h3⟩, hk⟩ := cellsT_ok st fa h2
    exact ⟨⟨f1 ++ f2, f1, f2, h1, h3, rfl⟩, hk⟩
  | [], .v _ :: _, _, h => h.elim
  | [], .s _ _ _ :: _, _, h => h.elim
  | _ :: _, [], _, h => h.elim
/-- Arguments: do they stand for what the contract is of? -/
def parsT (s : S) : List SV → List Par → Tr → Tr
  | [], [], k => k
  | .on (.ce c) :: us, .v x :: ps, k => .e0 c.val x (parsT s us ps k)
  | .on (.ce c) :: us, .b e :: ps, k => .e0 c.val (.bool e) (parsT s us ps k)
  | .on (.ag l) :: us, .st i x :: ps, k => cellsT s l (i.lv x) (parsT s us ps k)
  | .on (.ce c) :: us, .sl i xs :: ps, k => slT s c i xs (parsT s us ps k)
  | _, _, _ => .no
theorem parsT_ok {s : S} {w0 W : World} (st : St w0 W s.rs) (fa : Facts w0 W s.B) : ∀ {us : List SV} {ps : List Par} {k : Tr}, (parsT s us ps k).holds → gps ps → Pars W (us.map SV.val) ps ∧ k.holds := by
  intro us
  induction us with
  | nil =>
    intro ps k h hg
    cases ps with
    | nil => exact ⟨trivial, h⟩
    | cons p ps => exact h.elim
  | cons u us ih =>
    intro ps k h hg
    unfold parsT at h
    split at h
    · next heq1 => first | cases heq1 | (rename_i heq2; cases heq2)
    · next c us' x ps' k' heq =>
      simp only [List.cons.injEq] at heq
      obtain ⟨rfl, rfl⟩ := heq
      obtain ⟨h1, h2⟩ := h
      obtain ⟨a, b⟩ := ih h2 hg
      exact ⟨⟨h1, a⟩, b⟩
    · next c us' x ps' k' heq =>
      simp only [List.cons.injEq] at heq
      obtain ⟨rfl, rfl⟩ := heq
      obtain ⟨h1, h2⟩ := h
      obtain ⟨a, b⟩ := ih h2 hg
      exact ⟨⟨h1, a⟩, b⟩
    · next _ _ _ l us' α i x ps' heq =>
      simp only [List.cons.injEq] at heq
      obtain ⟨rfl, rfl⟩ := heq
      obtain ⟨⟨fp, hc⟩, h2⟩ := cellsT_ok st fa h
      obtain ⟨a, b⟩ := ih h2 hg.2
      exact ⟨⟨⟨_, fp, rfl, i.inn hg.1 hc⟩, a⟩, b⟩
    · next c us' β i xs ps' k' heq =>
      simp only [List.cons.injEq] at heq
      obtain ⟨rfl, rfl⟩ := heq
      obtain ⟨hs, h2⟩ := slT_ok h st fa
      obtain ⟨a, b⟩ := ih h2 hg
      exact ⟨⟨hs, a⟩, b⟩
    · exact h.elim

/-! ### Steps that only read -/
/-- What an operation lays down, whenever its operands are as they were told. -/
def QS (P : Program) (lk : Operand → Option SV) (o : Op) (w0 W : World) (rs : List Res) (v : SV) : Prop :=
  ∀ {n : Nat} {f : Nat → Value} {W' : World} {Q : Exit → Act → World → Prop} {KK : Value → World → Prop} {d : Option Tmp} {ty : TypeId} {pos : String} {af : Array Go.Edge} {g : Option (Nat × Bool)},
    (∀ x u, lk x = some u → ev n f x = u.val) → St w0 W' rs → Below W.heap.size W W' → (∀ W'', St w0 W'' rs → Below W'.heap.size W' W'' → KK v.val W'') → Stp P n ⟨d, o, ty, pos, af, g⟩ f W' Q KK
def opt {α : Type u} (o : Option α) (K : α → Tr) : Tr :=
  match o with
  | some x => K x
  | none => .no
theorem opt_ok {G : Prop} {α : Type u} {o : Option α} {K : α → Tr} (h : (opt o K).holds) (k : ∀ x, o = some x → (K x).holds → G) : G := by
  unfold opt at h
  split at h
  · exact k _ rfl h
  · exact h.elim
/-- A cell alone. -/
def asC (v : SV) (K : Sc → Tr) : Tr :=
  match v with
  | .on (.ce c) => K c
  | _ => .no
theorem asC_ok {G : Prop} {v : SV} {K : Sc → Tr} (h : (asC v K).holds) (k : ∀ c, v = .on (.ce c) → (K c).holds → G) : G := by
  unfold asC at h
  split at h
  · exact k _ rfl h
  · exact h.elim
abbrev one (c : Sc) : SV := .on (.ce c)
def arT (b : BinOp) (x y : Sc) (d : D P R) (K : SV → D P R → Tr) : Tr :=
  nrm d fun d => match b, d with
    | .add, .ad a c _ k => .e0 x.val (I a) (.e0 y.val (I c) (K (one (.vl (I (a + c)))) k))
    | .sub, .su a c _ k => .e0 x.val (I a) (.e0 y.val (I c) (K (one (.vl (I (a - c)))) k))
    | .mul, .mu a c _ k => .e0 x.val (I a) (.e0 y.val (I c) (K (one (.vl (I (a * c)))) k))
    | .quo, .qu a c _ k => .e0 x.val (I a) (.e0 y.val (I c) (K (one (.vl (I (a / c)))) k))
    | .rem, .qu a c _ k => .e0 x.val (I a) (.e0 y.val (I c) (K (one (.vl (I (a % c)))) k))
    | _, _ => .no
theorem arT_ok {G : Prop} {lk : Operand → Option SV} {w0 W : World} {rs : List Res} {b : BinOp} {x y : Operand} {t t' : TypeId} {cx cy : Sc} {d : D P R} {K : SV → D P R → Tr} (hx : lk x = some (one cx)) (hy : lk y = some (one cy)) (h : (arT b cx cy d K).holds)
    (k : ∀ v d', (K v d').holds → QS P lk (.binOp b t x y t') w0 W rs v → G) : G := by
  unfold arT at h
  refine nrm_ok h fun d' h => ?_
  split at h
  · obtain ⟨h1, h2, h3⟩ := h
    refine k _ _ h3 ?_
    intro n f W' Q KK d ty pos af g hl hst hb hk
    exact stp_add ((hl _ _ hx).trans h1) ((hl _ _ hy).trans h2) (by assumption) (hk W' hst (Below.refl _ _))
  · obtain ⟨h1, h2, h3⟩ := h
    refine k _ _ h3 ?_
    intro n f W' Q KK d ty pos af g hl hst hb hk
    exact stp_sub ((hl _ _ hx).trans h1) ((hl _ _ hy).trans h2) (by assumption) (hk W' hst (Below.refl _ _))
  · obtain ⟨h1, h2, h3⟩ := h
    refine k _ _ h3 ?_
    intro n f W' Q KK d ty pos af g hl hst hb hk
    exact stp_mul ((hl _ _ hx).trans h1) ((hl _ _ hy).trans h2) (by assumption) (hk W' hst (Below.refl _ _))
  · obtain ⟨h1, h2, h3⟩ := h
    refine k _ _ h3 ?_
    intro n f W' Q KK d ty pos af g hl hst hb hk
    have hi := ‹(_ ∧ _) ∧ _›
    exact stp_quo ((hl _ _ hx).trans h1) ((hl _ _ hy).trans h2) hi.1 hi.2 (hk W' hst (Below.refl _ _))
  · obtain ⟨h1, h2, h3⟩ := h
    refine k _ _ h3 ?_
    intro n f W' Q KK d ty pos af g hl hst hb hk
    have hi := ‹(_ ∧ _) ∧ _›
    exact stp_rem ((hl _ _ hx).trans h1) ((hl _ _ hy).trans h2) hi.1 hi.2 (hk W' hst (Below.refl _ _))
  · exact h.elim
def boT (P : Program) {A : Type} {R : A → Prop} (b : BinOp) (t : TypeId) (x y : Sc) (d : D P R) (K : SV → D P R → Tr) : Tr :=
  cond (isAr b) (arT b x y d K) (opt (cmp P t b x.val y.val) fun e => K (one (.bo e)) d)
theorem boT_ok {G : Prop} {lk : Operand → Option SV} {w0 W : World} {rs : List Res} {b : BinOp} {x y : Operand} {t t' : TypeId} {cx cy : Sc} {d : D P R} {K : SV → D P R → Tr} (hx : lk x = some (one cx)) (hy : lk y = some (one cy)) (h : (boT P b t cx cy d K).holds)
    (k : ∀ v d', (K v d').holds → QS P lk (.binOp b t x y t') w0 W rs v → G) : G := by
  unfold boT at h
  cases hb : isAr b with
  | true => rw [hb] at h; exact arT_ok hx hy h k
  | false =>
    rw [hb] at h
    refine opt_ok h fun e he h => k _ _ h ?_
    intro n f W' Q KK d ty pos af g hl hst hb hk
    exact cmp_ok he (hl _ _ hx) (hl _ _ hy) (hk W' hst (Below.refl _ _))
/-- A load. -/
def ldT (P : Program) (s : S) (t : TypeId) (c : Sc) (K : SV → Tr) : Tr :=
  match c with
  | .pt j b k o => opt (rgOf s j) fun r => .e0 b r.1 <| .e0 k r.2.1 <| opt (ldK P t) fun z => match z with
    | none => opt (r.2.2[o]?) fun v => K (one v)
    | some z => .e0 ((r.2.2.drop o).take z).length z (K (.on (.ag ((r.2.2.drop o).take z))))
  | _ => .no
theorem ldT_ok {G : Prop} {lk : Operand → Option SV} {w0 W : World} {s : S} {x : Operand} {t : TypeId} {c : Sc} {K : SV → Tr} (hx : lk x = some (one c)) (h : (ldT P s t c K).holds) (fa : Facts w0 W s.B)
    (k : ∀ v, (K v).holds → QS P lk (.load t x) w0 W s.rs v → G) : G := by
  unfold ldT at h
  split at h
  · next j b0 k0 o =>
    refine opt_ok h fun r hr h => ?_
    obtain ⟨b, kk, cs⟩ := r
    obtain ⟨h1, h2, h⟩ := h
    simp only at h1 h2
    subst h1 h2
    refine opt_ok h fun z hz h => ?_
    have hv : ∀ {n f}, (∀ x u, lk x = some u → ev n f x = u.val) → ev n f x = .pointer (some ⟨b0, k0 + o, none⟩) := fun hl => hl _ _ hx
    cases z with
    | none =>
      refine opt_ok h fun v hvv h => k _ h ?_
      intro n f W' Q KK d ty pos af g hl hst hb hk
      refine stp_loadK (cs := [v.val]) hz (hv hl) ?_ rfl (hk W' hst (Below.refl _ _))
      have hrg := rgOf_ok hr hst (fa.up hb)
      intro q u hj
      cases q with
      | zero =>
        simp at hj; subst hj
        exact hrg o _ (by rw [List.getElem?_map]; simp only at hvv; rw [hvv]; rfl)
      | succ j => simp at hj
    | some z =>
      obtain ⟨h1, h⟩ := h
      simp only at h1
      refine k _ h ?_
      intro n f W' Q KK d ty pos af g hl hst hb hk
      have hrg := rgOf_ok hr hst (fa.up hb)
      have := range_part (i := o) (z := z) hrg
      refine stp_loadK (z := some z) (cs := ((cs.drop o).take z).map Sc.val) hz (hv hl) ?_ (by simpa using h1) (hk W' hst (Below.refl _ _))
      simpa [List.map_take, List.map_drop] using this
  · exact h.elim
/-- An element's place. -/
def ixT (P : Program) {A : Type} {R : A → Prop} (s : S) (t : TypeId) (c : Sc) (y : Sc) (d : D P R) (K : SV → S → D P R → Tr) : Tr :=
  nrm d fun d => match c, d with
    | .rf j h, .ix i xs n x _ e _ k => opt (slOf s j) fun q => .e0 h q.2.1 <| .e1 q.2.2 ⟨i.toShape, xs⟩ <| .e0 y.val (I e) <| .e0 (elK P t) (some i.size) <|
        .fn fun g : Nat × Nat => leaves q.1 (i.lv x) ⟨s.E, s.O, s.B, s.nx + 1⟩ fun cs s' => .fp (i.good x) fun hg => K (one (.pt s.nx g.1 g.2 0)) ⟨s'.E, s'.O, (s.nx, q.1, .el h i.size n g.1 g.2 cs) :: s'.B, s'.nx⟩ (k hg)
    | .rf j h, .iy r n e _ k => match lku s.B r with
      | some (l, .el h' z n' b o cs) => .e0 h h' <| .e0 n n' <| .e0 y.val (I e) <| .e0 (elK P t) (some z) <| K (one (.pt r b o 0)) s k
      | _ => .no
    | .rf j h, .il n e _ k => match lku s.O j with
      | some (.rs i h' b pre _ _ n' _ r) => .e0 h h' <| .e0 n n' <| .e0 y.val (I e) <| .e0 (elK P t) (some i.size) <| K (one (.pt r b pre.length 0)) s k
      | _ => .no
    | _, _ => .no
theorem PA_rest {α : Type} [Shape α] {v : Value} {b : Nat} {pre post : List Value} {xs : List α} {i : Nat} {fr : List Nat} {W : World} (h : (Res.rest v b pre post xs i fr).holds W) : PA v (Shape.size α) i b pre.length := by
  obtain ⟨⟨off, cap, f1, f2, p0, c1, c2, q0, h1, h2, h3, h4, h5, h6, h7, h8, h9, h10⟩, _⟩ := h
  refine ⟨off, xs.length, cap, h1, h4, ?_⟩
  rw [h5, List.length_append, h6, h8.len, List.length_take, Nat.min_eq_left (by omega)]
theorem stp_ixK {n : Nat} {f : Nat → Value} {W : World} {Q : Exit → Act → World → Prop} {K : Value → World → Prop} {d : Option Tmp} {ty : TypeId} {pos : String} {af : Array Go.Edge} {g : Option (Nat × Bool)} {x y : Operand} {t : TypeId} {kk i b o : Nat} {e : Int} {u : Value}
    (hk' : elK P t = some kk) (hx : ev n f x = u) (hp : PA u kk i b o) (hy : ev n f y = I e) (he : e = i) (k : K (.pointer (some ⟨b, o, none⟩)) W) : Stp P n ⟨d, .indexAddr t x y, ty, pos, af, g⟩ f W Q K := by
  unfold elK at hk'
  split at hk'
  · next te hu =>
    obtain ⟨j, hj, hk'⟩ := Option.bind_eq_some_iff.1 hk'
    simp only [Option.some.injEq] at hk'
    obtain ⟨off, len, cap, rfl, hi, rfl⟩ := hp
    subst he
    refine Stp.run (v := .pointer (some ⟨b, off + i * kk, none⟩)) ?_ k
    have hel : P.elem t = te := by simp [Program.elem, hu]
    have hu2 : P.underlying t = some (.slice (P.elem t)) := by rw [hel]; exact hu
    have hlt : (i : Int) < len := by omega
    simp [execOp, hx, hy, Sem.run_bind, run_indexAt_slice (h := hu2), hel, hlt, sizeOf, typeInfo, hj, hk', Addr.add]
  · cases hk'
theorem idxG {α : Type} (i : Dsh α) {w : World} {v : Value} {xs : List α} {fp : List Nat} (hs : @Sl α i.toShape w v xs fp) {n : Nat} {x : α} (h : xs[n]? = some x) : ∃ b k cs f1, PA v i.size n b k ∧ w.rangeAt b k cs ∧ i.good x ∧ Cells w cs (i.lv x) f1 := by
  obtain ⟨hn, rfl⟩ := List.getElem?_eq_some_iff.1 h
  obtain ⟨b, k, cs, f1, h1, h2, h3, _⟩ := idx hs hn
  obtain ⟨h4, h5⟩ := i.out h3
  exact ⟨b, k, cs, f1, h1, h2, h4, h5⟩
theorem ixT_ok {G : Prop} {lk : Operand → Option SV} {w0 W : World} {s : S} {x y : Operand} {t : TypeId} {cx cy : Sc} {d : D P R} {K : SV → S → D P R → Tr} (hx : lk x = some (one cx)) (hy : lk y = some (one cy)) (h : (ixT P s t cx cy d K).holds) (st : St w0 W s.rs) (fa : Facts w0 W s.B)
    (k : ∀ v s' d', (K v s' d').holds → s'.E = s.E → s'.O = s.O → Facts w0 W s'.B → QS P lk (.indexAddr t x y) w0 W s.rs v → G) : G := by
  unfold ixT at h
  refine nrm_ok h fun d' h => ?_
  split at h
  · next _ j hd α i xs m z hz e he kk _ =>
    refine opt_ok h fun q hq h => ?_
    obtain ⟨l, hd', dd⟩ := q
    obtain ⟨h1, h2, h3, h4, h⟩ := h
    simp only at h1 h2
    subst h1 h2
    obtain ⟨fp, hs⟩ := slOf_ok hq st fa
    obtain ⟨b, ko, cs, f1, g1, g2, g3, g4⟩ := idxG i hs hz
    refine leaves_ok (h (b, ko)) g4 (s := ⟨s.E, s.O, s.B, s.nx + 1⟩) fa fun scs s' h' e1 e2 e3 fa' => ?_
    refine k _ _ _ (h' g3) e2 e3 ?_ ?_
    · intro e he
      rcases List.mem_cons.1 he with rfl | he
      · exact ⟨g1, by rw [e1]; exact g2⟩
      · exact fa' e he
    · intro n f W' Q KK d ty pos af g hl hst hb hk
      exact stp_ixK h4 (hl _ _ hx) g1 ((hl _ _ hy).trans h3) he (hk W' hst (Below.refl _ _))
  · next _ _ j hd r m e he kk _ =>
    split at h
    · next l hd' z m' b o cs hr =>
      obtain ⟨h1, h2, h3, h4, h⟩ := h
      subst h1 h2
      have hp := (fa.now st.below hr).1
      refine k _ _ _ h rfl rfl fa ?_
      intro n f W' Q KK d ty pos af g hl hst hb hk
      exact stp_ixK h4 (hl _ _ hx) hp ((hl _ _ hy).trans h3) he (hk W' hst (Below.refl _ _))
    · exact h.elim
  · next _ _ j hd m e he kk _ =>
    split at h
    · next hj =>
      obtain ⟨h1, h2, h3, h4, h⟩ := h
      subst h1 h2
      have hp := PA_rest (st.holds _ (mem_res hj))
      refine k _ _ _ h rfl rfl fa ?_
      intro n f W' Q KK d ty pos af g hl hst hb hk
      exact stp_ixK h4 (hl _ _ hx) hp ((hl _ _ hy).trans h3) he (hk W' hst (Below.refl _ _))
    · exact h.elim
  · exact h.elim
end
end Go.Proofs.YtchnllpegfbleaaDoor

/-
  Parts of slices, whose values are known ahead; three results, the first in a cell.
-/
namespace Go.Proofs.YtchnllpegfbleaaDoor
set_option linter.unusedSimpArgs false
set_option linter.unusedVariables false
set_option maxRecDepth 100000
open Go.RowKit
section
variable {α : Type} [Shape α]
/-- x[:h], for any step that asks for it. -/
theorem slq_h {w : World} {v : Value} {xs : List α} {fp : List Nat} {h : Nat} (hs : Sl w v xs fp) (hh : h ≤ xs.length) : ∃ u g, Sl w u (xs.take h) g ∧ (∀ c ∈ g, c ∈ fp) ∧
    ∀ {P : Program} {n : Nat} {f : Nat → Value} {W : World} {Q : Exit → Act → World → Prop} {K : Value → World → Prop} {d : Option Tmp} {ty : TypeId} {pos : String} {af : Array Go.Edge} {gd : Option (Nat × Bool)} {t t' : TypeId} {x y : Operand} {e : Int}, SlOk P t t' α → ev n f x = v → ev n f y = I e → e = h → K u W → Stp P n ⟨d, .slice t x none (some y) none, ty, pos, af, gd⟩ f W Q K := by
  obtain ⟨ao, cap, fp', rfl, hcap, hs', hf⟩ := hs.part 0 h (Nat.zero_le _) hh
  refine ⟨sliced ao 0 h cap (Shape.size α), fp', by simpa using hs', hf, ?_⟩
  intro P n f W Q K d ty pos af gd t t' x y e hT hx hy he k
  subst he
  have hel : P.elem t = t' := by simp [Program.elem, hT.desc]
  have hu : P.underlying t = some (.slice (P.elem t)) := by rw [hel]; exact hT.desc
  refine Stp.run (v := sliced ao 0 h cap (Shape.size α)) ?_ k
  simp only [execOp, hx, hy, Sem.run_bind, Option.map_none, Option.map_some]
  rw [run_sliceAt_slice (h := hu), run_slice_h (ht := hu) (h0 := by omega) (h2 := by omega), hel, run_size hT.size]
  simp
/-- x[l:] -/
theorem slq_l {w : World} {v : Value} {xs : List α} {fp : List Nat} {l : Nat} (hs : Sl w v xs fp) (hh : l ≤ xs.length) : ∃ u g, Sl w u (xs.drop l) g ∧ (∀ c ∈ g, c ∈ fp) ∧
    ∀ {P : Program} {n : Nat} {f : Nat → Value} {W : World} {Q : Exit → Act → World → Prop} {K : Value → World → Prop} {d : Option Tmp} {ty : TypeId} {pos : String} {af : Array Go.Edge} {gd : Option (Nat × Bool)} {t t' : TypeId} {x y : Operand} {e : Int}, SlOk P t t' α → ev n f x = v → ev n f y = I e → e = l → K u W → Stp P n ⟨d, .slice t x (some y) none none, ty, pos, af, gd⟩ f W Q K := by
  obtain ⟨ao, cap, fp', rfl, hcap, hs', hf⟩ := hs.part l xs.length hh (Nat.le_refl _)
  refine ⟨sliced ao l xs.length cap (Shape.size α), fp', by simpa using hs', hf, ?_⟩
  intro P n f W Q K d ty pos af gd t t' x y e hT hx hy he k
  subst he
  have hel : P.elem t = t' := by simp [Program.elem, hT.desc]
  have hu : P.underlying t = some (.slice (P.elem t)) := by rw [hel]; exact hT.desc
  refine Stp.run (v := sliced ao l xs.length cap (Shape.size α)) ?_ k
  simp only [execOp, hx, hy, Sem.run_bind, Option.map_none, Option.map_some]
  rw [run_sliceAt_slice (h := hu), run_slice_l (ht := hu) (h0 := by omega) (h1 := by omega), hel, run_size hT.size]
  simp
end
section
variable {P : Program} {n : Nat} {f : Nat → Value} {W : World} {α : Type} [Shape α] [Agg α]
theorem retctt {fn : Func} {s u u2 : Tmp} {t : TypeId} {R : Ending → World → Prop} {b : Nat} {C : List Value} {t' : TypeId} {v v2 : Value} (hT : TyOk P t α) (ha : Agg.agg α = true) (hr : fn.results = #[.cell s t, .tmp u, .tmp u2]) (hv : ev n f (.tmp s) = .pointer (some ⟨b, 0, none⟩)) (hB : (Res.bx b C t').holds W) (hl : C.length = Shape.size α) (hu : ev n f (.tmp u) = v) (hu2 : ev n f (.tmp u2) = v2) (h : R (.returned (.tuple #[.agg C.toArray, v, v2])) W) : bodyPost P fn R .ret (act n f) W := by
  refine ⟨rfl, .tuple #[.agg C.toArray, v, v2], ?_, h⟩
  have h1 := hT.load (range_of_heap hB) hl
  simp only [val, ha, cond_true, Instr.loadAt, Instr.sureAddr, Sem.run_bind, Sem.run_pure, Result.andThen_ok] at h1
  have e : (act n f).tmps.getD s undef = .pointer (some ⟨b, 0, none⟩) := by rw [act_get]; exact hv
  have e2 : (act n f).tmps.getD u undef = v := by rw [act_get]; exact hu
  have e3 : (act n f).tmps.getD u2 undef = v2 := by rw [act_get]; exact hu2
  rw [Array.getD_eq_getD_getElem?] at e e2 e3
  simp [results, hr, e, e2, e3, asAddr, h1]
end
end Go.Proofs.YtchnllpegfbleaaDoor

/-
  A field of a struct value. Theory alone.
-/
namespace Go.Proofs.YtchnllpegfbleaaDoor
set_option linter.unusedSimpArgs false
set_option linter.unusedVariables false
open Go.RowKit
section
variable {P : Program} {n : Nat} {f : Nat → Value} {W : World} {Q : Exit → Act → World → Prop} {K : Value → World → Prop}
  {d : Option Tmp} {ty : TypeId} {pos : String} {af : Array Go.Edge} {g : Option (Nat × Bool)}
/-- The struct in a struct's field. -/
theorem stp_field {x : Operand} {t i : Nat} {C cs : List Value} (hx : ev n f x = .agg C.toArray) (hb : (Instr.field t (.agg C.toArray) i).run P W = .ok (.agg cs.toArray) W) (k : K (.agg cs.toArray) W) : Stp P n ⟨d, .field t x i, ty, pos, af, g⟩ f W Q K :=
  Stp.run (v := .agg cs.toArray) (by simp [execOp, hx, Sem.run_bind, hb]) k
end
end Go.Proofs.YtchnllpegfbleaaDoor
