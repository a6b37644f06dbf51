/-
  DeedLine: of the program and of the reference. (Printed by a program of this project's.)
-/
import Derived.Test.YtchnllpegfbleaaDoorReplyL
import Derived.Test.YtchnllpegfbleaaDoorDeedOkS
namespace Go.Proofs.YtchnllpegfbleaaDoor
set_option linter.unusedSimpArgs false
set_option linter.unusedVariables false
set_option maxRecDepth 100000
open Go.RowKit


/-- What a kind of deed is called. -/
def deedWs : List ByteArray := [(⟨#[115, 117, 98, 109, 105, 116]⟩ : ByteArray), (⟨#[112, 111, 108, 108]⟩ : ByteArray), (⟨#[100, 111, 110, 101]⟩ : ByteArray), (⟨#[102, 97, 105, 108]⟩ : ByteArray), (⟨#[116, 105, 99, 107]⟩ : ByteArray), (⟨#[99, 97, 110, 99, 101, 108]⟩ : ByteArray), (⟨#[102, 111, 114, 103, 101, 116]⟩ : ByteArray), (⟨#[115, 116, 97, 114, 116]⟩ : ByteArray)]
def deedW (k : Int) : ByteArray := deedWs.getD (k - 1).toNat ⟨#[]⟩
theorem deedW_size (k : Int) : (deedW k).size ≤ 6 := by
  unfold deedW
  have : ∀ i : Nat, (deedWs.getD i ⟨#[]⟩).size ≤ 6 := by
    intro i
    rcases i with _ | _ | _ | _ | _ | _ | _ | _ | i
    · decide
    · decide
    · decide
    · decide
    · decide
    · decide
    · decide
    · decide
    · simp [deedWs, bsz]
  exact this _
theorem deedW_I {k : Int} (h : 1 ≤ k ∧ k ≤ 8) (hl : (k - 1).toNat < ([(⟨#[115, 117, 98, 109, 105, 116]⟩ : ByteArray), (⟨#[112, 111, 108, 108]⟩ : ByteArray), (⟨#[100, 111, 110, 101]⟩ : ByteArray), (⟨#[102, 97, 105, 108]⟩ : ByteArray), (⟨#[116, 105, 99, 107]⟩ : ByteArray), (⟨#[99, 97, 110, 99, 101, 108]⟩ : ByteArray), (⟨#[102, 111, 114, 103, 101, 116]⟩ : ByteArray), (⟨#[115, 116, 97, 114, 116]⟩ : ByteArray)] : List ByteArray).length) : ([(⟨#[115, 117, 98, 109, 105, 116]⟩ : ByteArray), (⟨#[112, 111, 108, 108]⟩ : ByteArray), (⟨#[100, 111, 110, 101]⟩ : ByteArray), (⟨#[102, 97, 105, 108]⟩ : ByteArray), (⟨#[116, 105, 99, 107]⟩ : ByteArray), (⟨#[99, 97, 110, 99, 101, 108]⟩ : ByteArray), (⟨#[102, 111, 114, 103, 101, 116]⟩ : ByteArray), (⟨#[115, 116, 97, 114, 116]⟩ : ByteArray)] : List ByteArray)[(k - 1).toNat] = deedW k := by
  unfold deedW deedWs
  rw [List.getD_eq_getElem?_getD, List.getElem?_eq_getElem hl]; rfl
theorem deedW_S {k : Int} (h : 1 ≤ k ∧ k ≤ 8) (hl : k.toNat < ([⟨#[]⟩, (⟨#[115, 117, 98, 109, 105, 116]⟩ : ByteArray), (⟨#[112, 111, 108, 108]⟩ : ByteArray), (⟨#[100, 111, 110, 101]⟩ : ByteArray), (⟨#[102, 97, 105, 108]⟩ : ByteArray), (⟨#[116, 105, 99, 107]⟩ : ByteArray), (⟨#[99, 97, 110, 99, 101, 108]⟩ : ByteArray), (⟨#[102, 111, 114, 103, 101, 116]⟩ : ByteArray), (⟨#[115, 116, 97, 114, 116]⟩ : ByteArray)] : List ByteArray).length) : ([⟨#[]⟩, (⟨#[115, 117, 98, 109, 105, 116]⟩ : ByteArray), (⟨#[112, 111, 108, 108]⟩ : ByteArray), (⟨#[100, 111, 110, 101]⟩ : ByteArray), (⟨#[102, 97, 105, 108]⟩ : ByteArray), (⟨#[116, 105, 99, 107]⟩ : ByteArray), (⟨#[99, 97, 110, 99, 101, 108]⟩ : ByteArray), (⟨#[102, 111, 114, 103, 101, 116]⟩ : ByteArray), (⟨#[115, 116, 97, 114, 116]⟩ : ByteArray)] : List ByteArray)[k.toNat] = deedW k := by
  have hk : k = 1 ∨ k = 2 ∨ k = 3 ∨ k = 4 ∨ k = 5 ∨ k = 6 ∨ k = 7 ∨ k = 8 := by omega
  rcases hk with rfl | rfl | rfl | rfl | rfl | rfl | rfl | rfl <;> rfl
def edgeB (s : ByteArray) (e : Edge) : ByteArray := s ++ ((((⟨#[32]⟩ : ByteArray) ++ itoaB e.from_) ++ (⟨#[62]⟩ : ByteArray)) ++ itoaB e.to_)
def edgesB (s : ByteArray) (es : List Edge) : ByteArray := es.foldl edgeB s
theorem edgesB_step {s : ByteArray} {es : List Edge} {k : Nat} (hk : k < es.length) : edgesB s (es.take (k + 1)) = edgeB (edgesB s (es.take k)) es[k] := by
  unfold edgesB
  rw [List.take_succ_eq_append_getElem hk, List.foldl_append]; rfl
theorem edgesB_size {s : ByteArray} : ∀ {es : List Edge}, (∀ e ∈ es, e.ok) → (edgesB s es).size ≤ s.size + 44 * es.length := by
  intro es
  induction es generalizing s with
  | nil => intro _; simp [edgesB]
  | cons e es ih =>
    intro h
    have h1 := ih (s := edgeB s e) (fun m hm => h m (by simp [hm]))
    have h0 := h e (by simp)
    simp only [Edge.ok, I64] at h0
    have h2 := itoaB_size (z := e.from_) (by omega)
    have h3 := itoaB_size (z := e.to_) (by omega)
    have e1 : edgesB s (e :: es) = edgesB (edgeB s e) es := rfl
    rw [e1]
    simp only [edgeB, ByteArray.size_append, bsz, List.size_toArray, List.length_cons, List.length_nil] at h1 ⊢
    omega
theorem Elems.edges {W : World} : ∀ {xs : List Edge} {cells : List Value} {fp : List Nat}, Elems W cells xs fp → ∀ x ∈ xs, x.ok
  | [], _, _, _ => by simp
  | x :: xs, _, _, ⟨cs, rest, f1, f2, h1, h2, h3, h4⟩ => fun y hy => by
    rcases List.mem_cons.1 hy with rfl | hy
    · exact h2.2.2
    · exact Elems.edges h3 y hy
theorem Sl_edges {w : World} {v : Value} {xs : List Edge} {fp : List Nat} (h : Sl w v xs fp) : ∀ x ∈ xs, x.ok := by
  obtain ⟨ao, cap, rfl, h1, h2, h3⟩ := h
  rcases h3 with ⟨rfl, _⟩ | ⟨b, off, f, _, rfl, rfl, _, h3⟩
  · simp
  · obtain ⟨cells, he, _⟩ := Elems.of_at off h3
    exact he.edges
def lineNums (d : Deed) : List Int := if d.kind = 1 then [d.run, d.plan.prio, d.plan.most, d.plan.wait, d.plan.tasks] else deedNums d
def deedLine (d : Deed) : ByteArray := if deedOk d then edgesB (saidB (deedW d.kind) (lineNums d)) d.plan.edges else ⟨#[]⟩
theorem deedOk_facts {d : Deed} (h : deedOk d = true) : (1 ≤ d.kind ∧ d.kind ≤ 8) ∧ d.plan.edges.length ≤ 31 ∧ (¬ d.kind = 1 → d.plan.edges = []) := by
  simp only [deedOk, Bool.and_eq_true, decide_eq_true_eq] at h
  obtain ⟨⟨⟨h1, h2⟩, h3⟩, h4⟩ := h
  refine ⟨inB_iff'.1 h1, h2, fun hk => ?_⟩
  have h5 := eqB_iff.1 h3
  rw [h5]
  unfold usedD
  rw [if_neg hk]
  split
  · rfl
  · split
    · rfl
    · split <;> rfl
theorem lineNums_len (d : Deed) : (lineNums d).length ≤ 6 := by
  unfold lineNums deedNums
  split
  · simp
  · split
    · simp
    · split
      · simp
      · split <;> simp

theorem lineNums_64 {d : Deed} (h : (-9223372036854775808 ≤ d.kind ∧ d.kind ≤ 9223372036854775807) ∧ (-9223372036854775808 ≤ d.run ∧ d.run ≤ 9223372036854775807) ∧ ((-9223372036854775808 ≤ d.plan.prio ∧ d.plan.prio ≤ 9223372036854775807) ∧ (-9223372036854775808 ≤ d.plan.most ∧ d.plan.most ≤ 9223372036854775807) ∧ (-9223372036854775808 ≤ d.plan.wait ∧ d.plan.wait ≤ 9223372036854775807) ∧ (-9223372036854775808 ≤ d.plan.tasks ∧ d.plan.tasks ≤ 9223372036854775807)) ∧ (-9223372036854775808 ≤ d.task ∧ d.task ≤ 9223372036854775807) ∧ (-9223372036854775808 ≤ d.try_ ∧ d.try_ ≤ 9223372036854775807) ∧ (-9223372036854775808 ≤ d.worker ∧ d.worker ≤ 9223372036854775807) ∧ (-9223372036854775808 ≤ d.draw ∧ d.draw ≤ 9223372036854775807))
    (hd : (1 ≤ d.kind ∧ d.kind ≤ 8) ∧ d.plan.edges.length ≤ 31 ∧ (¬ d.kind = 1 → d.plan.edges = [])) : ∀ n ∈ lineNums d, I64 n := by
  intro n hn
  unfold lineNums deedNums at hn
  simp only [I64]
  split at hn
  · simp only [List.mem_cons, List.not_mem_nil, or_false] at hn; omega
  · split at hn
    · simp only [List.mem_cons, List.not_mem_nil, or_false] at hn; omega
    · split at hn
      · simp only [List.mem_cons, List.not_mem_nil, or_false] at hn; omega
      · split at hn
        · simp only [List.mem_cons, List.not_mem_nil, or_false] at hn; omega
        · cases hn

set_option maxHeartbeats 2000000 in
theorem DeedWordI (w : World) (k : Int) (hk : 1 ≤ k ∧ k ≤ 8) :
    Calls Tryd.prog 37 #[I k] w fun e w' => e = .returned (.string (deedW k)) ∧ St w w' [] := by
  refine enter1 Tryd.func37 rfl Tryd.ntmps37 (by decide) ?_
  refine wp_seq ?_
  refine sx_region ?_
  refine sx rfl (stp_assign (v := .string (⟨#[]⟩ : ByteArray)) rfl ?_)
  refine sx_nil ?_
  refine wp_seq ?_
  refine sx_region ?_
  refine sx rfl (stp_buildSlice (cs := [.string (⟨#[115, 117, 98, 109, 105, 116]⟩ : ByteArray), .string (⟨#[112, 111, 108, 108]⟩ : ByteArray), .string (⟨#[100, 111, 110, 101]⟩ : ByteArray), .string (⟨#[102, 97, 105, 108]⟩ : ByteArray), .string (⟨#[116, 105, 99, 107]⟩ : ByteArray), .string (⟨#[99, 97, 110, 99, 101, 108]⟩ : ByteArray), .string (⟨#[102, 111, 114, 103, 101, 116]⟩ : ByteArray), .string (⟨#[115, 116, 97, 114, 116]⟩ : ByteArray)]) (e := 9) (pcons (v := .string (⟨#[115, 117, 98, 109, 105, 116]⟩ : ByteArray)) rfl (pcons (v := .string (⟨#[112, 111, 108, 108]⟩ : ByteArray)) rfl (pcons (v := .string (⟨#[100, 111, 110, 101]⟩ : ByteArray)) rfl (pcons (v := .string (⟨#[102, 97, 105, 108]⟩ : ByteArray)) rfl (pcons (v := .string (⟨#[116, 105, 99, 107]⟩ : ByteArray)) rfl (pcons (v := .string (⟨#[99, 97, 110, 99, 101, 108]⟩ : ByteArray)) rfl (pcons (v := .string (⟨#[102, 111, 114, 103, 101, 116]⟩ : ByteArray)) rfl (pcons (v := .string (⟨#[115, 116, 97, 114, 116]⟩ : ByteArray)) rfl pnil)))))))) (run_buildSliceN ap_StringS _ rfl (lc_cons rfl (lc_cons rfl (lc_cons rfl (lc_cons rfl (lc_cons rfl (lc_cons rfl (lc_cons rfl (lc_cons rfl lc_nil))))))))) (St.start w) ?_); intro b1 W2 hb3 st4
  refine sx rfl (stp_assign (v := .slice (some ⟨b1, 0, none⟩) 8 8) rfl ?_)
  refine sx_nil ?_
  refine wp_seq ?_
  refine wp_seq ?_
  refine sx_region ?_
  refine sx rfl (stp_move (v := I k) rfl ?_)
  refine sx rfl (stp_call3 Tryd.func53 rfl rfl rfl rfl ((within_n W2 k 1 8).mono ?_)); rintro _ W6 ⟨rfl, hk7⟩; refine ⟨_, rfl, ?_⟩
  have st8 := St.call st4 hk7
  refine sx rfl (stp_not rfl ?_)
  refine sx_nil ?_
  refine sx_if rfl (fun h10 => ?_) (fun h10 => ?_)
  · skip
    have h10p := inB_not (bnot_t h10)
    omega
  · skip
    have h10p := inB_iff'.1 (bnot_f h10)
    refine wp_skip ?_
    refine wp_seq ?_
    refine sx_region ?_
    refine sx rfl (stp_move (v := .slice (some ⟨b1, 0, none⟩) 8 8) rfl ?_)
    refine sx rfl (stp_move (v := I k) rfl ?_)
    refine sx rfl (stp_sub rfl rfl (by (simp only [I64] at *; omega)) ?_)
    have st11 := St.row_lit (α := ByteArray) (ys := [(⟨#[115, 117, 98, 109, 105, 116]⟩ : ByteArray), (⟨#[112, 111, 108, 108]⟩ : ByteArray), (⟨#[100, 111, 110, 101]⟩ : ByteArray), (⟨#[102, 97, 105, 108]⟩ : ByteArray), (⟨#[116, 105, 99, 107]⟩ : ByteArray), (⟨#[99, 97, 110, 99, 101, 108]⟩ : ByteArray), (⟨#[102, 111, 114, 103, 101, 116]⟩ : ByteArray), (⟨#[115, 116, 97, 114, 116]⟩ : ByteArray)]) st8 rfl (Nat.le_of_ble_eq_true rfl) (Elems.sc (by simp only [bsz, List.size_toArray, List.length_cons, List.length_nil, maxLen]; omega) (Elems.sc (by simp only [bsz, List.size_toArray, List.length_cons, List.length_nil, maxLen]; omega) (Elems.sc (by simp only [bsz, List.size_toArray, List.length_cons, List.length_nil, maxLen]; omega) (Elems.sc (by simp only [bsz, List.size_toArray, List.length_cons, List.length_nil, maxLen]; omega) (Elems.sc (by simp only [bsz, List.size_toArray, List.length_cons, List.length_nil, maxLen]; omega) (Elems.sc (by simp only [bsz, List.size_toArray, List.length_cons, List.length_nil, maxLen]; omega) (Elems.sc (by simp only [bsz, List.size_toArray, List.length_cons, List.length_nil, maxLen]; omega) (Elems.sc (by simp only [bsz, List.size_toArray, List.length_cons, List.length_nil, maxLen]; omega) Elems.s0))))))))
    have hia6dd3 : (k - 1).toNat < ([(⟨#[115, 117, 98, 109, 105, 116]⟩ : ByteArray), (⟨#[112, 111, 108, 108]⟩ : ByteArray), (⟨#[100, 111, 110, 101]⟩ : ByteArray), (⟨#[102, 97, 105, 108]⟩ : ByteArray), (⟨#[116, 105, 99, 107]⟩ : ByteArray), (⟨#[99, 97, 110, 99, 101, 108]⟩ : ByteArray), (⟨#[102, 111, 114, 103, 101, 116]⟩ : ByteArray), (⟨#[115, 116, 97, 114, 116]⟩ : ByteArray)]).length := (by simp only [List.length_cons, List.length_nil]; omega)
    have hq_ := idx (row_Sl (st11.get 0 rfl)) (i := (k - 1).toNat) hia6dd3
    obtain ⟨b12, o12, cs12, f12, hp12, hr12, hc12, hm12⟩ := hq_
    have hk12 := hc12
    obtain ⟨rfl, rfl, hok12⟩ := hk12
    refine sx rfl (stp_indexAddr sl_StringS rfl hp12 rfl (by omega) ?_)
    refine sx rfl (stp_load_rg ld_string rfl rfl hr12 (Below.refl _ _) (i := 0) rfl rfl ?_)
    refine sx rfl (stp_assign (v := .string (([(⟨#[115, 117, 98, 109, 105, 116]⟩ : ByteArray), (⟨#[112, 111, 108, 108]⟩ : ByteArray), (⟨#[100, 111, 110, 101]⟩ : ByteArray), (⟨#[102, 97, 105, 108]⟩ : ByteArray), (⟨#[116, 105, 99, 107]⟩ : ByteArray), (⟨#[99, 97, 110, 99, 101, 108]⟩ : ByteArray), (⟨#[102, 111, 114, 103, 101, 116]⟩ : ByteArray), (⟨#[115, 116, 97, 114, 116]⟩ : ByteArray)])[(k - 1).toNat]'hia6dd3)) rfl ?_)
    refine sx_nil ?_
    refine wp_ret ?_; repeat (first | refine then_ret ?_ | refine blk_ret ?_)
    refine ret1 Tryd.results37 rfl ?_
    exact ⟨(congrArg (fun z => Ending.returned (.string z)) (deedW_I (by omega) _)), st11.bare⟩
set_option maxHeartbeats 2000000 in
theorem DeedLineI (w : World) {d : Deed} {cs : List Value} {fp : List Nat} (hc : Shape.C w cs d fp) (htab : Lib.TabIs Tryd.prog w "internal/strconv.uint64pow10" .u64 Lib.pow10Tab) :
    Calls Tryd.prog 18 #[.agg cs.toArray] w fun e w' => e = .returned (.string (deedLine d)) ∧ St w w' [] := by
  have hed : ∀ e ∈ d.plan.edges, e.ok := by have h0 := hc; obtain ⟨v1, f1, h0, hok, h1, hfp⟩ := h0; exact Sl_edges h1
  have hd64 : d.ok := by have h0 := hc; obtain ⟨v1, f1, h0, hok, h1, hfp⟩ := h0; exact hok
  simp only [Deed.ok, Plan.ok, I64] at hd64
  refine enter1 Tryd.func18 rfl Tryd.ntmps18 (by decide) ?_
  refine wp_seq ?_
  refine sx_region ?_
  refine sx rfl (stp_box_agg (cs := cs) rfl (St.start w) ?_); intro b1 W2 hb3 st4
  refine sx rfl (stp_assign (v := .string (⟨#[]⟩ : ByteArray)) rfl ?_)
  refine sx_nil ?_
  refine wp_seq ?_
  refine wp_seq ?_
  refine sx_region ?_
  refine sx rfl (stp_load_bxa ld_Deed rfl rfl (st4.get 0 rfl) (Shape.len hc) ?_)
  refine sx rfl (stp_call1 Tryd.func36 rfl rfl ((DeedOkI W2 (C_below hc st4.below)).mono ?_)); rintro _ W6 ⟨rfl, hk7⟩; refine ⟨_, rfl, ?_⟩
  have st8 := St.call st4 hk7
  refine sx rfl (stp_not rfl ?_)
  refine sx_nil ?_
  refine sx_if rfl (fun h10 => ?_) (fun h10 => ?_)
  · skip
    refine wp_seq ?_
    refine sx_region ?_
    refine sx rfl (stp_assign (v := .string (⟨#[]⟩ : ByteArray)) rfl ?_)
    refine sx_nil ?_
    refine wp_ret ?_; repeat (first | refine then_ret ?_ | refine blk_ret ?_)
    refine ret1 Tryd.results18 rfl ?_
    exact ⟨(congrArg (fun z => Ending.returned (.string z)) (by unfold deedLine; rw [(bnot_t h10)]; rfl)), st8.bare⟩
  · skip
    refine wp_skip ?_
    refine wp_seq ?_
    refine wp_seq ?_
    refine sx_region ?_
    have hdf := deedOk_facts (bnot_f h10)
    refine sx rfl (stp_fieldAddr fa_Deed_0 rfl ?_)
    have hk11 := hc
    obtain ⟨v11_0, g11_0, rfl, hok11, h11_0, rfl⟩ := hk11
    refine sx rfl (stp_load_bx ld_int rfl rfl (st8.get 0 rfl) (i := 0) rfl rfl ?_)
    refine sx rfl (stp_neq rfl rfl ?_)
    refine sx_nil ?_
    refine sx_if rfl (fun h12 => ?_) (fun h12 => ?_)
    · skip
      have h12p := of_decide_eq_false (bnot_t h12)
      refine wp_seq ?_
      have hdn := lineNums_len d
      have hln : lineNums d = deedNums d := by unfold lineNums; rw [if_neg (by omega)]
      rw [hln] at hdn
      refine sx_any [Pl.is (.pointer (some ⟨b1, 0 + 0, none⟩)), Pl.is (I d.kind), Pl.is (.string (deedW d.kind)), Pl.is (.agg #[I d.kind, I d.run, I d.plan.prio, I d.plan.most, I d.plan.wait, I d.plan.tasks, v11_0, I d.task, I d.try_, I d.worker, I d.draw]), Pl.ssl (α := Int) (deedNums d), Pl.is (.string (saidB (deedW d.kind) (deedNums d))), Pl.is (.string (saidB (deedW d.kind) (deedNums d)))] mix (by rfl) st8 ⟨(fun f W hst hbl hd hf => stp_fieldAddr fa_Deed_0 ((hf 1 rfl).trans (show _ = (.pointer (some ⟨b1, 0, none⟩) : Value) from rfl)) ⟨Below.refl _ _, rfl⟩), (fun f W hst hbl hd hf => stp_load_bx ld_int rfl (hd 0 12 rfl rfl) (hst.get 0 rfl) (i := 0) rfl rfl ⟨Below.refl _ _, rfl⟩), (fun f W hst hbl hd hf => stp_call1 Tryd.func37 rfl (hd 1 13 rfl rfl) ((DeedWordI W d.kind (by omega)).mono (by rintro e W2 ⟨rfl, hk⟩; exact ⟨_, rfl, hk.below, rfl⟩))), (fun f W hst hbl hd hf => stp_load_bxs (cs := [I d.kind, I d.run, I d.plan.prio, I d.plan.most, I d.plan.wait, I d.plan.tasks, v11_0, I d.task, I d.try_, I d.worker, I d.draw]) ld_Deed rfl ((hf 1 rfl).trans (show _ = (.pointer (some ⟨b1, 0, none⟩) : Value) from rfl)) (hst.get 0 rfl) rfl rfl ⟨Below.refl _ _, rfl⟩), (fun f W hst hbl hd hf => stp_call1 Tryd.func38 rfl (hd 3 15 rfl rfl) ((deedNumsI W (C_below hc hst.below) (by omega)).mono (by rintro e W2 ⟨v, fp, rfl, hk⟩; exact ⟨_, rfl, hk.below, fp, own_Sl (hk.get 0 rfl)⟩))), (fun f W hst hbl hd hf => by obtain ⟨fp15, h15⟩ := hd 4 16 rfl rfl; exact stp_call2 Tryd.func25 rfl (hd 2 14 rfl rfl) rfl ((SaidI W (deedW d.kind) h15 (by have hws := deedW_size d.kind; (try simp only [List.length_cons, List.length_nil]); omega) (TabIs.below htab hst.below)).mono (by rintro e W2 ⟨rfl, hk⟩; exact ⟨_, rfl, hk.below, rfl⟩))), (fun f W hst hbl hd hf => stp_assign (v := .string (saidB (deedW d.kind) (deedNums d))) (hd 5 17 rfl rfl) ⟨Below.refl _ _, rfl⟩), trivial⟩ ?_
      intro f16 W17 st18 hb19 hv20 hf21
      have hq_ := hv20 4 16 (by decide) rfl
      obtain ⟨fp22, h22⟩ := hq_
      refine wp_ret ?_; repeat (first | refine then_ret ?_ | refine blk_ret ?_)
      refine ret1 Tryd.results18 (hv20 6 2 (by decide) rfl) ?_
      have st23 := St.call st18 (St.start W17)
      exact ⟨(congrArg (fun z => Ending.returned (.string z)) (by unfold deedLine lineNums; rw [(bnot_f h10), if_pos rfl, if_neg (by omega), hdf.2.2 (by omega)]; rfl)), st23.bare⟩
    · skip
      have h12p := of_decide_eq_true (bnot_f h12)
      refine wp_skip ?_
      refine wp_seq ?_
      refine sx_any [Pl.is (.pointer (some ⟨b1, 0 + 0, none⟩)), Pl.is (I d.kind), Pl.is (.string (deedW d.kind)), Pl.is (.pointer (some ⟨b1, 0 + 1, none⟩)), Pl.is (I d.run), Pl.is (.pointer (some ⟨b1, 0 + 2, none⟩)), Pl.is (.pointer (some ⟨b1, 0 + 2 + 0, none⟩)), Pl.is (I d.plan.prio), Pl.is (.pointer (some ⟨b1, 0 + 2, none⟩)), Pl.is (.pointer (some ⟨b1, 0 + 2 + 1, none⟩)), Pl.is (I d.plan.most), Pl.is (.pointer (some ⟨b1, 0 + 2, none⟩)), Pl.is (.pointer (some ⟨b1, 0 + 2 + 2, none⟩)), Pl.is (I d.plan.wait), Pl.is (.pointer (some ⟨b1, 0 + 2, none⟩)), Pl.is (.pointer (some ⟨b1, 0 + 2 + 3, none⟩)), Pl.is (I d.plan.tasks), Pl.blk W6.heap.size [I d.run, I d.plan.prio, I d.plan.most, I d.plan.wait, I d.plan.tasks] 3 5, Pl.is (.string (saidB (deedW d.kind) ([d.run, d.plan.prio, d.plan.most, d.plan.wait, d.plan.tasks]))), Pl.is (.string (saidB (deedW d.kind) ([d.run, d.plan.prio, d.plan.most, d.plan.wait, d.plan.tasks])))] mix (by rfl) st8 ⟨(fun f W hst hbl hd hf => stp_fieldAddr fa_Deed_0 ((hf 1 rfl).trans (show _ = (.pointer (some ⟨b1, 0, none⟩) : Value) from rfl)) ⟨Below.refl _ _, rfl⟩), (fun f W hst hbl hd hf => stp_load_bx ld_int rfl (hd 0 18 rfl rfl) (hst.get 0 rfl) (i := 0) rfl rfl ⟨Below.refl _ _, rfl⟩), (fun f W hst hbl hd hf => stp_call1 Tryd.func37 rfl (hd 1 19 rfl rfl) ((DeedWordI W d.kind (by omega)).mono (by rintro e W2 ⟨rfl, hk⟩; exact ⟨_, rfl, hk.below, rfl⟩))), (fun f W hst hbl hd hf => stp_fieldAddr fa_Deed_1 ((hf 1 rfl).trans (show _ = (.pointer (some ⟨b1, 0, none⟩) : Value) from rfl)) ⟨Below.refl _ _, rfl⟩), (fun f W hst hbl hd hf => stp_load_bx ld_int rfl (hd 3 21 rfl rfl) (hst.get 0 rfl) (i := 1) rfl rfl ⟨Below.refl _ _, rfl⟩), (fun f W hst hbl hd hf => stp_fieldAddr fa_Deed_2 ((hf 1 rfl).trans (show _ = (.pointer (some ⟨b1, 0, none⟩) : Value) from rfl)) ⟨Below.refl _ _, rfl⟩), (fun f W hst hbl hd hf => stp_fieldAddr fa_Plan_0 (hd 5 23 rfl rfl) ⟨Below.refl _ _, rfl⟩), (fun f W hst hbl hd hf => stp_load_bx ld_int rfl (hd 6 24 rfl rfl) (hst.get 0 rfl) (i := 2) rfl rfl ⟨Below.refl _ _, rfl⟩), (fun f W hst hbl hd hf => stp_fieldAddr fa_Deed_2 ((hf 1 rfl).trans (show _ = (.pointer (some ⟨b1, 0, none⟩) : Value) from rfl)) ⟨Below.refl _ _, rfl⟩), (fun f W hst hbl hd hf => stp_fieldAddr fa_Plan_1 (hd 8 26 rfl rfl) ⟨Below.refl _ _, rfl⟩), (fun f W hst hbl hd hf => stp_load_bx ld_int rfl (hd 9 27 rfl rfl) (hst.get 0 rfl) (i := 3) rfl rfl ⟨Below.refl _ _, rfl⟩), (fun f W hst hbl hd hf => stp_fieldAddr fa_Deed_2 ((hf 1 rfl).trans (show _ = (.pointer (some ⟨b1, 0, none⟩) : Value) from rfl)) ⟨Below.refl _ _, rfl⟩), (fun f W hst hbl hd hf => stp_fieldAddr fa_Plan_2 (hd 11 29 rfl rfl) ⟨Below.refl _ _, rfl⟩), (fun f W hst hbl hd hf => stp_load_bx ld_int rfl (hd 12 30 rfl rfl) (hst.get 0 rfl) (i := 4) rfl rfl ⟨Below.refl _ _, rfl⟩), (fun f W hst hbl hd hf => stp_fieldAddr fa_Deed_2 ((hf 1 rfl).trans (show _ = (.pointer (some ⟨b1, 0, none⟩) : Value) from rfl)) ⟨Below.refl _ _, rfl⟩), (fun f W hst hbl hd hf => stp_fieldAddr fa_Plan_3 (hd 14 32 rfl rfl) ⟨Below.refl _ _, rfl⟩), (fun f W hst hbl hd hf => stp_load_bx ld_int rfl (hd 15 33 rfl rfl) (hst.get 0 rfl) (i := 5) rfl rfl ⟨Below.refl _ _, rfl⟩), (fun f W hst hbl hd hf => stp_blk (cs := [I d.run, I d.plan.prio, I d.plan.most, I d.plan.wait, I d.plan.tasks]) (e := 3) (pcons (v := I d.run) (hd 4 22 rfl rfl) (pcons (v := I d.plan.prio) (hd 7 25 rfl rfl) (pcons (v := I d.plan.most) (hd 10 28 rfl rfl) (pcons (v := I d.plan.wait) (hd 13 31 rfl rfl) (pcons (v := I d.plan.tasks) (hd 16 34 rfl rfl) pnil))))) (run_buildSliceN ap_IntS _ rfl (lc_cons rfl (lc_cons rfl (lc_cons rfl (lc_cons rfl (lc_cons rfl lc_nil)))))) hbl), (fun f W hst hbl hd hf => by obtain ⟨b24, e24, hh24, hn24⟩ := hd 17 35 rfl rfl; exact stp_call2 Tryd.func25 rfl (hd 2 20 rfl rfl) e24 ((SaidI W (deedW d.kind) (blk_Sl (ys := [d.run, d.plan.prio, d.plan.most, d.plan.wait, d.plan.tasks]) (by simp) (Elems.ic (by simp only [I64]; omega) (Elems.ic (by simp only [I64]; omega) (Elems.ic (by simp only [I64]; omega) (Elems.ic (by simp only [I64]; omega) (Elems.ic (by simp only [I64]; omega) Elems.i0))))) hh24) (by have hws := deedW_size d.kind; (try simp only [List.length_cons, List.length_nil]); omega) (TabIs.below htab hst.below)).mono (by rintro e W2 ⟨rfl, hk⟩; exact ⟨_, rfl, hk.below, rfl⟩))), (fun f W hst hbl hd hf => stp_assign (v := .string (saidB (deedW d.kind) ([d.run, d.plan.prio, d.plan.most, d.plan.wait, d.plan.tasks]))) (hd 18 36 rfl rfl) ⟨Below.refl _ _, rfl⟩), trivial⟩ ?_
      intro f25 W26 st27 hb28 hv29 hf30
      have hq_ := hv29 17 35 (by decide) rfl
      obtain ⟨b31, hv32, hh32, hn32⟩ := hq_
      have st33 := St.add st8 st27 hh32 hn32
      refine wp_seq ?_
      refine wp_seq ?_
      refine sx_region ?_
      refine sx rfl (stp_fieldAddr fa_Deed_2 ((hf30 1 rfl).trans (show _ = (.pointer (some ⟨b1, 0, none⟩) : Value) from rfl)) ?_)
      refine sx rfl (stp_fieldAddr fa_Plan_4 rfl ?_)
      refine sx rfl (stp_load_bx ld_EdgeS rfl rfl (st33.get 1 rfl) (i := 6) rfl rfl ?_)
      refine sx rfl (stp_len sl_EdgeS rfl h11_0 ?_)
      refine sx rfl (stp_move (v := I 0) rfl ?_)
      refine sx_nil ?_
      refine wp_block ?_
      refine sx_loop (fun (m : Nat) (f : Nat → Value) (W : World) => ∃ (k : Nat), k ≤ d.plan.edges.length ∧ m = d.plan.edges.length - k ∧ f 3 = .string (edgesB (saidB (deedW d.kind) [d.run, d.plan.prio, d.plan.most, d.plan.wait, d.plan.tasks]) (d.plan.edges.take k)) ∧ f 39 = v11_0 ∧ f 40 = I (d.plan.edges.length : Int) ∧ f 41 = I (k : Int) ∧ St w W ([Res.bx b31 [I d.run, I d.plan.prio, I d.plan.most, I d.plan.wait, I d.plan.tasks] 3, Res.bx b1 [I d.kind, I d.run, I d.plan.prio, I d.plan.most, I d.plan.wait, I d.plan.tasks, v11_0, I d.task, I d.try_, I d.worker, I d.draw] 50])) (d.plan.edges.length - 0) ?_ ?_
      · exact ⟨0, (by omega), rfl, (Eq.trans (show _ = (.string (saidB (deedW d.kind) ([d.run, d.plan.prio, d.plan.most, d.plan.wait, d.plan.tasks])) : Value) from (hv29 19 3 (by decide) rfl)) (congrArg Value.string rfl)), rfl, rfl, rfl, st33⟩
      intro m35 f36 W37 hJ38
      obtain ⟨k, hk, rfl, hs40_3, hs40_39, hs40_40, hs40_41, st39⟩ := hJ38
      have hes := edgesB_size (s := (saidB (deedW d.kind) [d.run, d.plan.prio, d.plan.most, d.plan.wait, d.plan.tasks])) (es := d.plan.edges.take k) (fun e he => hed e (List.mem_of_mem_take he))
      have hws := deedW_size d.kind
      have htl := List.length_take_le k d.plan.edges
      have hss := saidB_size (word := deedW d.kind) (l := [d.run, d.plan.prio, d.plan.most, d.plan.wait, d.plan.tasks]) (by intro n hn; simp only [List.mem_cons, List.not_mem_nil, or_false] at hn; simp only [I64]; omega)
      simp only [List.length_cons, List.length_nil] at hss
      refine wp_seq ?_
      refine sx_region ?_
      refine sx rfl (stp_lss hs40_41 hs40_40 ?_)
      refine sx_nil ?_
      refine wp_seq ?_
      refine sx_if rfl (fun h41 => ?_) (fun h41 => ?_)
      · skip
        have h41p := of_decide_eq_true h41
        refine wp_skip ?_
        refine wp_seq ?_
        refine wp_block ?_
        refine wp_seq ?_
        refine sx_region ?_
        have hi86a04 : k < d.plan.edges.length := (by omega)
        have hq_ := idx h11_0 (i := k) hi86a04
        obtain ⟨b42, o42, cs42, f42, hp42, hr42, hc42, hm42⟩ := hq_
        refine sx rfl (stp_indexAddr sl_EdgeS hs40_39 hp42 hs40_41 rfl ?_)
        refine sx rfl (stp_load_rga ld_Edge rfl rfl hr42 st39.below (Shape.len hc42) ?_)
        refine sx rfl (stp_alloc zz_Edge st39 ?_); intro b43 W44 hb45 st46
        refine sx rfl (stp_store_all (cs := cs42) ld_Edge hc42 rfl rfl st46 rfl ?_); intro W48 st49
        refine sx_nil ?_
        have hk50 := hc42
        obtain ⟨he50, rfl, hok50⟩ := hk50
        have he50 : _ = [I (d.plan.edges[k]'hi86a04).from_, I (d.plan.edges[k]'hi86a04).to_] := he50
        subst he50
        have hek := hed _ (List.getElem_mem (l := d.plan.edges) (n := k) (by omega))
        simp only [Edge.ok, I64] at hek
        have hz1 := itoaB_size (z := (d.plan.edges[k]'(by omega)).from_) (by omega)
        have hz2 := itoaB_size (z := (d.plan.edges[k]'(by omega)).to_) (by omega)
        refine sx_any [Pl.is (.string (edgesB (saidB (deedW d.kind) [d.run, d.plan.prio, d.plan.most, d.plan.wait, d.plan.tasks]) (d.plan.edges.take k))), Pl.is (.pointer (some ⟨b43, 0 + 0, none⟩)), Pl.is (I (d.plan.edges[k]'hi86a04).from_), Pl.is (.string (itoaB (d.plan.edges[k]'hi86a04).from_)), Pl.is (.string ((⟨#[32]⟩ : ByteArray) ++ (itoaB (d.plan.edges[k]'hi86a04).from_))), Pl.is (.string (((⟨#[32]⟩ : ByteArray) ++ (itoaB (d.plan.edges[k]'hi86a04).from_)) ++ (⟨#[62]⟩ : ByteArray))), Pl.is (.pointer (some ⟨b43, 0 + 1, none⟩)), Pl.is (I (d.plan.edges[k]'hi86a04).to_), Pl.is (.string (itoaB (d.plan.edges[k]'hi86a04).to_)), Pl.is (.string ((((⟨#[32]⟩ : ByteArray) ++ (itoaB (d.plan.edges[k]'hi86a04).from_)) ++ (⟨#[62]⟩ : ByteArray)) ++ (itoaB (d.plan.edges[k]'hi86a04).to_))), Pl.is (.string ((edgesB (saidB (deedW d.kind) [d.run, d.plan.prio, d.plan.most, d.plan.wait, d.plan.tasks]) (d.plan.edges.take k)) ++ ((((⟨#[32]⟩ : ByteArray) ++ (itoaB (d.plan.edges[k]'hi86a04).from_)) ++ (⟨#[62]⟩ : ByteArray)) ++ (itoaB (d.plan.edges[k]'hi86a04).to_)))), Pl.is (.string ((edgesB (saidB (deedW d.kind) [d.run, d.plan.prio, d.plan.most, d.plan.wait, d.plan.tasks]) (d.plan.edges.take k)) ++ ((((⟨#[32]⟩ : ByteArray) ++ (itoaB (d.plan.edges[k]'hi86a04).from_)) ++ (⟨#[62]⟩ : ByteArray)) ++ (itoaB (d.plan.edges[k]'hi86a04).to_))))] mix (by rfl) st49 ⟨(fun f W hst hbl hd hf => stp_move (v := .string (edgesB (saidB (deedW d.kind) [d.run, d.plan.prio, d.plan.most, d.plan.wait, d.plan.tasks]) (d.plan.edges.take k))) ((hf 3 rfl).trans hs40_3) ⟨Below.refl _ _, rfl⟩), (fun f W hst hbl hd hf => stp_fieldAddr fa_Edge_0 ((hf 5 rfl).trans (show _ = (.pointer (some ⟨b43, 0, none⟩) : Value) from rfl)) ⟨Below.refl _ _, rfl⟩), (fun f W hst hbl hd hf => stp_load_bx ld_int rfl (hd 1 46 rfl rfl) (hst.get 0 rfl) (i := 0) rfl rfl ⟨Below.refl _ _, rfl⟩), (fun f W hst hbl hd hf => stp_call1 Tryd.func31 rfl (hd 2 47 rfl rfl) ((DecimalI W (d.plan.edges[k]'hi86a04).from_ (by omega) (TabIs.below htab hst.below)).mono (by rintro e W2 ⟨rfl, hk⟩; exact ⟨_, rfl, hk.below, rfl⟩))), (fun f W hst hbl hd hf => stp_sadd rfl (hd 3 48 rfl rfl) (by simp only [ByteArray.size_append, bsz, List.size_toArray, List.length_cons, List.length_nil]; omega) ⟨Below.refl _ _, rfl⟩), (fun f W hst hbl hd hf => stp_sadd (hd 4 49 rfl rfl) rfl (by simp only [ByteArray.size_append, bsz, List.size_toArray, List.length_cons, List.length_nil]; omega) ⟨Below.refl _ _, rfl⟩), (fun f W hst hbl hd hf => stp_fieldAddr fa_Edge_1 ((hf 5 rfl).trans (show _ = (.pointer (some ⟨b43, 0, none⟩) : Value) from rfl)) ⟨Below.refl _ _, rfl⟩), (fun f W hst hbl hd hf => stp_load_bx ld_int rfl (hd 6 51 rfl rfl) (hst.get 0 rfl) (i := 1) rfl rfl ⟨Below.refl _ _, rfl⟩), (fun f W hst hbl hd hf => stp_call1 Tryd.func31 rfl (hd 7 52 rfl rfl) ((DecimalI W (d.plan.edges[k]'hi86a04).to_ (by omega) (TabIs.below htab hst.below)).mono (by rintro e W2 ⟨rfl, hk⟩; exact ⟨_, rfl, hk.below, rfl⟩))), (fun f W hst hbl hd hf => stp_sadd (hd 5 50 rfl rfl) (hd 8 53 rfl rfl) (by simp only [ByteArray.size_append, bsz, List.size_toArray, List.length_cons, List.length_nil]; omega) ⟨Below.refl _ _, rfl⟩), (fun f W hst hbl hd hf => stp_sadd (hd 0 45 rfl rfl) (hd 9 54 rfl rfl) (by simp only [ByteArray.size_append, bsz, List.size_toArray, List.length_cons, List.length_nil]; omega) ⟨Below.refl _ _, rfl⟩), (fun f W hst hbl hd hf => stp_assign (v := .string ((edgesB (saidB (deedW d.kind) [d.run, d.plan.prio, d.plan.most, d.plan.wait, d.plan.tasks]) (d.plan.edges.take k)) ++ ((((⟨#[32]⟩ : ByteArray) ++ (itoaB (d.plan.edges[k]'hi86a04).from_)) ++ (⟨#[62]⟩ : ByteArray)) ++ (itoaB (d.plan.edges[k]'hi86a04).to_)))) (hd 10 55 rfl rfl) ⟨Below.refl _ _, rfl⟩), trivial⟩ ?_
        intro f51 W52 st53 hb54 hv55 hf56
        refine sx_region ?_
        refine sx rfl (stp_add ((hf56 41 rfl).trans hs40_41) rfl (by (simp only [I64] at *; omega)) ?_)
        refine sx rfl (stp_move (v := I ((k : Int) + 1)) rfl ?_)
        refine sx_nil ?_
        have st57 := st53.f2
        have st58 := st57.f2
        have st59 := st58.d2
        exact ⟨_, d.plan.edges.length - (k + 1), (by omega), rfl, k + 1, (by omega), rfl, (Eq.trans (show _ = (.string ((edgesB (saidB (deedW d.kind) [d.run, d.plan.prio, d.plan.most, d.plan.wait, d.plan.tasks]) (d.plan.edges.take k)) ++ ((((⟨#[32]⟩ : ByteArray) ++ (itoaB (d.plan.edges[k]'hi86a04).from_)) ++ (⟨#[62]⟩ : ByteArray)) ++ (itoaB (d.plan.edges[k]'hi86a04).to_))) : Value) from (hv55 11 3 (by decide) rfl)) (congrArg Value.string (edgesB_step (by omega)).symm)), ((hf56 39 rfl).trans hs40_39), ((hf56 40 rfl).trans hs40_40), rfl, st59⟩
      · skip
        have h41p := of_decide_eq_false h41
        refine wp_exit ?_
        refine wp_seq ?_
        refine sx_region ?_
        refine sx rfl (stp_move (v := .string (edgesB (saidB (deedW d.kind) [d.run, d.plan.prio, d.plan.most, d.plan.wait, d.plan.tasks]) (d.plan.edges.take k))) hs40_3 ?_)
        refine sx rfl (stp_assign (v := .string (edgesB (saidB (deedW d.kind) [d.run, d.plan.prio, d.plan.most, d.plan.wait, d.plan.tasks]) (d.plan.edges.take k))) rfl ?_)
        refine sx_nil ?_
        refine wp_ret ?_; repeat (first | refine then_ret ?_ | refine blk_ret ?_)
        refine ret1 Tryd.results18 rfl ?_
        obtain rfl : k = d.plan.edges.length := by omega
        exact ⟨(congrArg (fun z => Ending.returned (.string z)) (by unfold deedLine lineNums; rw [(bnot_f h10), if_pos rfl, if_pos (by omega), List.take_length])), st39.bare⟩
set_option maxHeartbeats 2000000 in
theorem DeedLineS (w : World) {d : Deed} {cs : List Value} {fp : List Nat} (hc : Shape.C w cs d fp) :
    Calls Tryd.prog 16 #[.agg cs.toArray] w fun e w' => e = .returned (.string (deedLine d)) ∧ St w w' [] := by
  have hed : ∀ e ∈ d.plan.edges, e.ok := by have h0 := hc; obtain ⟨v1, f1, h0, hok, h1, hfp⟩ := h0; exact Sl_edges h1
  have hd64 : d.ok := by have h0 := hc; obtain ⟨v1, f1, h0, hok, h1, hfp⟩ := h0; exact hok
  simp only [Deed.ok, Plan.ok, I64] at hd64
  refine enter1 Tryd.func16 rfl Tryd.ntmps16 (by decide) ?_
  refine wp_seq ?_
  refine sx_region ?_
  refine sx rfl (stp_box_agg (cs := cs) rfl (St.start w) ?_); intro b1 W2 hb3 st4
  refine sx rfl (stp_assign (v := .string (⟨#[]⟩ : ByteArray)) rfl ?_)
  refine sx_nil ?_
  refine wp_seq ?_
  refine wp_seq ?_
  refine sx_region ?_
  refine sx rfl (stp_load_bxa ld_Deed rfl rfl (st4.get 0 rfl) (Shape.len hc) ?_)
  refine sx rfl (stp_call1 Tryd.func35 rfl rfl ((DeedOkS W2 (C_below hc st4.below)).mono ?_)); rintro _ W6 ⟨rfl, hk7⟩; refine ⟨_, rfl, ?_⟩
  have st8 := St.call st4 hk7
  refine sx rfl (stp_not rfl ?_)
  refine sx_nil ?_
  refine sx_if rfl (fun h10 => ?_) (fun h10 => ?_)
  · skip
    refine wp_seq ?_
    refine sx_region ?_
    refine sx rfl (stp_assign (v := .string (⟨#[]⟩ : ByteArray)) rfl ?_)
    refine sx_nil ?_
    refine wp_ret ?_; repeat (first | refine then_ret ?_ | refine blk_ret ?_)
    refine ret1 Tryd.results16 rfl ?_
    exact ⟨(congrArg (fun z => Ending.returned (.string z)) (by unfold deedLine; rw [(bnot_t h10)]; rfl)), st8.bare⟩
  · skip
    refine wp_skip ?_
    refine wp_seq ?_
    refine sx_region ?_
    have hdf := deedOk_facts (bnot_f h10)
    have h64 : ∀ n ∈ lineNums d, I64 n := lineNums_64 hd64 hdf
    have hdn := lineNums_len d
    refine sx rfl (stp_buildSlice (cs := []) (e := 3) pnil (run_buildSlice0 ap_IntS _) st8 ?_); intro b11 W12 hb13 st14
    have st14 := st14.row_empty (α := Int)
    refine sx rfl (stp_assign (v := (.slice (some ⟨b11, 0, none⟩) 0 0)) rfl ?_)
    refine sx_nil ?_
    refine wp_seq ?_
    refine sx_region ?_
    refine sx rfl (stp_buildSlice (cs := [.string (⟨#[]⟩ : ByteArray), .string (⟨#[115, 117, 98, 109, 105, 116]⟩ : ByteArray), .string (⟨#[112, 111, 108, 108]⟩ : ByteArray), .string (⟨#[100, 111, 110, 101]⟩ : ByteArray), .string (⟨#[102, 97, 105, 108]⟩ : ByteArray), .string (⟨#[116, 105, 99, 107]⟩ : ByteArray), .string (⟨#[99, 97, 110, 99, 101, 108]⟩ : ByteArray), .string (⟨#[102, 111, 114, 103, 101, 116]⟩ : ByteArray), .string (⟨#[115, 116, 97, 114, 116]⟩ : ByteArray)]) (e := 9) (pcons (v := .string (⟨#[]⟩ : ByteArray)) rfl (pcons (v := .string (⟨#[115, 117, 98, 109, 105, 116]⟩ : ByteArray)) rfl (pcons (v := .string (⟨#[112, 111, 108, 108]⟩ : ByteArray)) rfl (pcons (v := .string (⟨#[100, 111, 110, 101]⟩ : ByteArray)) rfl (pcons (v := .string (⟨#[102, 97, 105, 108]⟩ : ByteArray)) rfl (pcons (v := .string (⟨#[116, 105, 99, 107]⟩ : ByteArray)) rfl (pcons (v := .string (⟨#[99, 97, 110, 99, 101, 108]⟩ : ByteArray)) rfl (pcons (v := .string (⟨#[102, 111, 114, 103, 101, 116]⟩ : ByteArray)) rfl (pcons (v := .string (⟨#[115, 116, 97, 114, 116]⟩ : ByteArray)) rfl pnil))))))))) (run_buildSliceN ap_StringS _ rfl (lc_cons rfl (lc_cons rfl (lc_cons rfl (lc_cons rfl (lc_cons rfl (lc_cons rfl (lc_cons rfl (lc_cons rfl (lc_cons rfl lc_nil)))))))))) st14 ?_); intro b16 W17 hb18 st19
    refine sx rfl (stp_fieldAddr fa_Deed_0 rfl ?_)
    have hk21 := hc
    obtain ⟨v21_0, g21_0, rfl, hok21, h21_0, rfl⟩ := hk21
    refine sx rfl (stp_load_bx ld_int rfl rfl (st19.get 2 rfl) (i := 0) rfl rfl ?_)
    have st22 := St.row_lit (α := ByteArray) (ys := [(⟨#[]⟩ : ByteArray), (⟨#[115, 117, 98, 109, 105, 116]⟩ : ByteArray), (⟨#[112, 111, 108, 108]⟩ : ByteArray), (⟨#[100, 111, 110, 101]⟩ : ByteArray), (⟨#[102, 97, 105, 108]⟩ : ByteArray), (⟨#[116, 105, 99, 107]⟩ : ByteArray), (⟨#[99, 97, 110, 99, 101, 108]⟩ : ByteArray), (⟨#[102, 111, 114, 103, 101, 116]⟩ : ByteArray), (⟨#[115, 116, 97, 114, 116]⟩ : ByteArray)]) st19 rfl (Nat.le_of_ble_eq_true rfl) (Elems.sc (by simp only [bsz, List.size_toArray, List.length_cons, List.length_nil, maxLen]; omega) (Elems.sc (by simp only [bsz, List.size_toArray, List.length_cons, List.length_nil, maxLen]; omega) (Elems.sc (by simp only [bsz, List.size_toArray, List.length_cons, List.length_nil, maxLen]; omega) (Elems.sc (by simp only [bsz, List.size_toArray, List.length_cons, List.length_nil, maxLen]; omega) (Elems.sc (by simp only [bsz, List.size_toArray, List.length_cons, List.length_nil, maxLen]; omega) (Elems.sc (by simp only [bsz, List.size_toArray, List.length_cons, List.length_nil, maxLen]; omega) (Elems.sc (by simp only [bsz, List.size_toArray, List.length_cons, List.length_nil, maxLen]; omega) (Elems.sc (by simp only [bsz, List.size_toArray, List.length_cons, List.length_nil, maxLen]; omega) (Elems.sc (by simp only [bsz, List.size_toArray, List.length_cons, List.length_nil, maxLen]; omega) Elems.s0)))))))))
    have hic1759 : (d.kind).toNat < ([(⟨#[]⟩ : ByteArray), (⟨#[115, 117, 98, 109, 105, 116]⟩ : ByteArray), (⟨#[112, 111, 108, 108]⟩ : ByteArray), (⟨#[100, 111, 110, 101]⟩ : ByteArray), (⟨#[102, 97, 105, 108]⟩ : ByteArray), (⟨#[116, 105, 99, 107]⟩ : ByteArray), (⟨#[99, 97, 110, 99, 101, 108]⟩ : ByteArray), (⟨#[102, 111, 114, 103, 101, 116]⟩ : ByteArray), (⟨#[115, 116, 97, 114, 116]⟩ : ByteArray)]).length := (by simp only [List.length_cons, List.length_nil]; omega)
    have hq_ := idx (row_Sl (st22.get 0 rfl)) (i := (d.kind).toNat) hic1759
    obtain ⟨b23, o23, cs23, f23, hp23, hr23, hc23, hm23⟩ := hq_
    have hk23 := hc23
    obtain ⟨rfl, rfl, hok23⟩ := hk23
    refine sx rfl (stp_indexAddr sl_StringS rfl hp23 rfl (by omega) ?_)
    refine sx rfl (stp_load_rg ld_string rfl rfl hr23 (Below.refl _ _) (i := 0) rfl rfl ?_)
    refine sx rfl (stp_assign (v := .string (([(⟨#[]⟩ : ByteArray), (⟨#[115, 117, 98, 109, 105, 116]⟩ : ByteArray), (⟨#[112, 111, 108, 108]⟩ : ByteArray), (⟨#[100, 111, 110, 101]⟩ : ByteArray), (⟨#[102, 97, 105, 108]⟩ : ByteArray), (⟨#[116, 105, 99, 107]⟩ : ByteArray), (⟨#[99, 97, 110, 99, 101, 108]⟩ : ByteArray), (⟨#[102, 111, 114, 103, 101, 116]⟩ : ByteArray), (⟨#[115, 116, 97, 114, 116]⟩ : ByteArray)])[(d.kind).toNat]'hic1759)) rfl ?_)
    refine sx_nil ?_
    refine wp_seq ?_
    refine wp_seq ?_
    refine sx_region ?_
    refine sx rfl (stp_fieldAddr fa_Deed_0 rfl ?_)
    refine sx rfl (stp_load_bx ld_int rfl rfl (st22.get 2 rfl) (i := 0) rfl rfl ?_)
    refine sx_nil ?_
    refine wp_block ?_
    refine wp_seq ?_
    refine sx_region ?_
    refine sx rfl (stp_eql rfl rfl ?_)
    refine sx rfl (stp_assign (v := .bool (decide (d.kind = 1))) rfl ?_)
    refine sx_nil ?_
    refine sx_if rfl (fun h24 => ?_) (fun h24 => ?_)
    · skip
      have h24p := of_decide_eq_true h24
      refine sx_region ?_
      refine sx rfl (stp_move (v := (.slice (some ⟨b11, 0, none⟩) 0 0)) rfl ?_)
      refine sx rfl (stp_fieldAddr fa_Deed_1 rfl ?_)
      refine sx rfl (stp_load_bx ld_int rfl rfl (st22.get 2 rfl) (i := 1) rfl rfl ?_)
      refine sx rfl (stp_fieldAddr fa_Deed_2 rfl ?_)
      refine sx rfl (stp_fieldAddr fa_Plan_0 rfl ?_)
      refine sx rfl (stp_load_bx ld_int rfl rfl (st22.get 2 rfl) (i := 2) rfl rfl ?_)
      refine sx rfl (stp_fieldAddr fa_Deed_2 rfl ?_)
      refine sx rfl (stp_fieldAddr fa_Plan_1 rfl ?_)
      refine sx rfl (stp_load_bx ld_int rfl rfl (st22.get 2 rfl) (i := 3) rfl rfl ?_)
      refine sx rfl (stp_fieldAddr fa_Deed_2 rfl ?_)
      refine sx rfl (stp_fieldAddr fa_Plan_2 rfl ?_)
      refine sx rfl (stp_load_bx ld_int rfl rfl (st22.get 2 rfl) (i := 4) rfl rfl ?_)
      refine sx rfl (stp_fieldAddr fa_Deed_2 rfl ?_)
      refine sx rfl (stp_fieldAddr fa_Plan_3 rfl ?_)
      refine sx rfl (stp_load_bx ld_int rfl rfl (st22.get 2 rfl) (i := 5) rfl rfl ?_)
      refine sx rfl (stp_buildSlice (cs := [I d.run, I d.plan.prio, I d.plan.most, I d.plan.wait, I d.plan.tasks]) (e := 3) (pcons (v := I d.run) rfl (pcons (v := I d.plan.prio) rfl (pcons (v := I d.plan.most) rfl (pcons (v := I d.plan.wait) rfl (pcons (v := I d.plan.tasks) rfl pnil))))) (run_buildSliceN ap_IntS _ rfl (lc_cons rfl (lc_cons rfl (lc_cons rfl (lc_cons rfl (lc_cons rfl lc_nil)))))) st22 ?_); intro b25 W26 hb27 st28
      have st30 := st28.f2
      refine sx rfl (stp_append_bx (ys := [d.run, d.plan.prio, d.plan.most, d.plan.wait, d.plan.tasks]) ap_IntS rfl rfl rfl st30 (Elems.ic (by simp only [I64]; omega) (Elems.ic (by simp only [I64]; omega) (Elems.ic (by simp only [I64]; omega) (Elems.ic (by simp only [I64]; omega) (Elems.ic (by simp only [I64]; omega) Elems.i0))))) (by simp only [List.length_nil, List.length_cons, maxLen]; omega) (by simp only [List.length_nil, List.length_cons]; omega) ?_); intro v31 W32 st33
      refine sx rfl (stp_assign (v := v31) rfl ?_)
      refine sx_nil ?_
      refine wp_seq ?_
      refine sx_region ?_
      have hlist : [] ++ [d.run, d.plan.prio, d.plan.most, d.plan.wait, d.plan.tasks] = (lineNums d) := by unfold lineNums deedNums; first | rw [if_pos (by omega)]; rfl | (rw [if_neg (by omega), if_neg (by omega)]; first | (rw [if_pos (by omega)]; rfl) | (rw [if_neg (by omega), if_pos (by omega)]; rfl) | (rw [if_neg (by omega), if_neg (by omega), if_pos (by omega)]; rfl) | (rw [if_neg (by omega), if_neg (by omega), if_neg (by omega)]))
      have st34 := st33; rw [hlist] at st34
      skip
      refine sx rfl (stp_move (v := .string (([(⟨#[]⟩ : ByteArray), (⟨#[115, 117, 98, 109, 105, 116]⟩ : ByteArray), (⟨#[112, 111, 108, 108]⟩ : ByteArray), (⟨#[100, 111, 110, 101]⟩ : ByteArray), (⟨#[102, 97, 105, 108]⟩ : ByteArray), (⟨#[116, 105, 99, 107]⟩ : ByteArray), (⟨#[99, 97, 110, 99, 101, 108]⟩ : ByteArray), (⟨#[102, 111, 114, 103, 101, 116]⟩ : ByteArray), (⟨#[115, 116, 97, 114, 116]⟩ : ByteArray)])[(d.kind).toNat]'hic1759)) rfl ?_)
      refine sx rfl (stp_assign (v := .string (([(⟨#[]⟩ : ByteArray), (⟨#[115, 117, 98, 109, 105, 116]⟩ : ByteArray), (⟨#[112, 111, 108, 108]⟩ : ByteArray), (⟨#[100, 111, 110, 101]⟩ : ByteArray), (⟨#[102, 97, 105, 108]⟩ : ByteArray), (⟨#[116, 105, 99, 107]⟩ : ByteArray), (⟨#[99, 97, 110, 99, 101, 108]⟩ : ByteArray), (⟨#[102, 111, 114, 103, 101, 116]⟩ : ByteArray), (⟨#[115, 116, 97, 114, 116]⟩ : ByteArray)])[(d.kind).toNat]'hic1759)) rfl ?_)
      refine sx_nil ?_
      refine wp_seq ?_
      refine wp_seq ?_
      refine sx_region ?_
      refine sx rfl (stp_assign (v := I 0) rfl ?_)
      refine sx_nil ?_
      refine wp_block ?_
      refine sx_loop (fun (m : Nat) (f : Nat → Value) (W : World) => ∃ (i : Nat), i ≤ (lineNums d).length ∧ m = (lineNums d).length - i ∧ f 1 = .pointer (some ⟨b1, 0, none⟩) ∧ f 3 = v31 ∧ f 5 = .string (saidB (deedW d.kind) ((lineNums d).take i)) ∧ f 6 = I (i : Int) ∧ St w W ([Res.row (α := Int) 3 v31 (lineNums d) [], Res.row (α := ByteArray) 9 (.slice (some ⟨b16, 0, none⟩) 9 9) ([(⟨#[]⟩ : ByteArray), (⟨#[115, 117, 98, 109, 105, 116]⟩ : ByteArray), (⟨#[112, 111, 108, 108]⟩ : ByteArray), (⟨#[100, 111, 110, 101]⟩ : ByteArray), (⟨#[102, 97, 105, 108]⟩ : ByteArray), (⟨#[116, 105, 99, 107]⟩ : ByteArray), (⟨#[99, 97, 110, 99, 101, 108]⟩ : ByteArray), (⟨#[102, 111, 114, 103, 101, 116]⟩ : ByteArray), (⟨#[115, 116, 97, 114, 116]⟩ : ByteArray)]) [], Res.bx b1 [I d.kind, I d.run, I d.plan.prio, I d.plan.most, I d.plan.wait, I d.plan.tasks, v21_0, I d.task, I d.try_, I d.worker, I d.draw] 50])) ((lineNums d).length - 0) ?_ ?_
      · exact ⟨0, (by omega), rfl, rfl, rfl, (Eq.trans (show _ = (.string (([(⟨#[]⟩ : ByteArray), (⟨#[115, 117, 98, 109, 105, 116]⟩ : ByteArray), (⟨#[112, 111, 108, 108]⟩ : ByteArray), (⟨#[100, 111, 110, 101]⟩ : ByteArray), (⟨#[102, 97, 105, 108]⟩ : ByteArray), (⟨#[116, 105, 99, 107]⟩ : ByteArray), (⟨#[99, 97, 110, 99, 101, 108]⟩ : ByteArray), (⟨#[102, 111, 114, 103, 101, 116]⟩ : ByteArray), (⟨#[115, 116, 97, 114, 116]⟩ : ByteArray)])[(d.kind).toNat]'hic1759) : Value) from rfl) (congrArg Value.string (deedW_S (by omega) _))), rfl, st34⟩
      intro m35 f36 W37 hJ38
      obtain ⟨i, hi, rfl, hs40_1, hs40_3, hs40_5, hs40_6, st39⟩ := hJ38
      have hss := saidB_size (word := deedW d.kind) (l := (lineNums d).take i) (fun n hn => h64 n (List.mem_of_mem_take hn))
      have htl := List.length_take_le i (lineNums d)
      have hws := deedW_size d.kind
      refine wp_seq ?_
      refine wp_seq ?_
      refine sx_region ?_
      refine sx rfl (stp_move (v := I (i : Int)) hs40_6 ?_)
      refine sx rfl (stp_move (v := v31) hs40_3 ?_)
      refine sx rfl (stp_len sl_IntS rfl (row_Sl (st39.get 0 rfl)) ?_)
      refine sx rfl (stp_lss rfl rfl ?_)
      refine sx_nil ?_
      refine sx_if rfl (fun h41 => ?_) (fun h41 => ?_)
      · skip
        have h41p := of_decide_eq_true h41
        refine wp_skip ?_
        refine wp_seq ?_
        refine wp_block ?_
        refine sx_region ?_
        refine sx rfl (stp_move (v := .string (saidB (deedW d.kind) ((lineNums d).take i))) hs40_5 ?_)
        refine sx rfl (stp_sadd rfl rfl (by simp only [ByteArray.size_append, bsz, List.size_toArray, List.length_cons, List.length_nil]; omega) ?_)
        refine sx rfl (stp_move (v := v31) hs40_3 ?_)
        refine sx rfl (stp_move (v := I (i : Int)) hs40_6 ?_)
        have hi01093 : i < (lineNums d).length := (by omega)
        have hq_ := idx (row_Sl (st39.get 0 rfl)) (i := i) hi01093
        obtain ⟨b42, o42, cs42, f42, hp42, hr42, hc42, hm42⟩ := hq_
        have hk42 := hc42
        obtain ⟨rfl, rfl, hok42⟩ := hk42
        refine sx rfl (stp_indexAddr sl_IntS rfl hp42 rfl rfl ?_)
        have hik := h64 _ (List.getElem_mem (l := lineNums d) (n := i) (by omega))
        simp only [I64] at hik
        have hiz := itoaB_size (z := ((lineNums d)[i]'(by omega))) (by omega)
        refine sx rfl (stp_load_rg ld_int rfl rfl hr42 (Below.refl _ _) (i := 0) rfl rfl ?_)
        refine sx rfl (stp_call1 Tryd.func24 rfl rfl ((DecimalS W37 ((lineNums d)[i]'hi01093) (by omega)).mono ?_)); rintro _ W43 ⟨rfl, hk44⟩; refine ⟨_, rfl, ?_⟩
        have st45 := St.call st39 hk44
        refine sx rfl (stp_sadd rfl rfl (by simp only [ByteArray.size_append, bsz, List.size_toArray, List.length_cons, List.length_nil]; omega) ?_)
        refine sx rfl (stp_assign (v := .string (((saidB (deedW d.kind) ((lineNums d).take i)) ++ (⟨#[32]⟩ : ByteArray)) ++ (itoaB ((lineNums d)[i]'hi01093)))) rfl ?_)
        refine sx_nil ?_
        refine sx_region ?_
        refine sx rfl (stp_move (v := I (i : Int)) hs40_6 ?_)
        refine sx rfl (stp_add rfl rfl (by (simp only [I64] at *; omega)) ?_)
        refine sx rfl (stp_assign (v := I ((i : Int) + 1)) rfl ?_)
        refine sx_nil ?_
        exact ⟨_, (lineNums d).length - (i + 1), (by omega), rfl, i + 1, (by omega), rfl, hs40_1, hs40_3, (Eq.trans (show _ = (.string (((saidB (deedW d.kind) ((lineNums d).take i)) ++ (⟨#[32]⟩ : ByteArray)) ++ (itoaB ((lineNums d)[i]'hi01093))) : Value) from rfl) (congrArg Value.string (by rw [saidB_step (by omega)]; apply ByteArray.ext; simp))), rfl, st45⟩
      · skip
        have h41p := of_decide_eq_false h41
        refine wp_exit ?_
        refine wp_seq ?_
        refine wp_seq ?_
        refine sx_region ?_
        refine sx rfl (stp_assign (v := I 0) rfl ?_)
        refine sx_nil ?_
        refine wp_block ?_
        refine sx_loop (fun (m : Nat) (f : Nat → Value) (W : World) => ∃ (k : Nat), k ≤ d.plan.edges.length ∧ m = d.plan.edges.length - k ∧ f 1 = .pointer (some ⟨b1, 0, none⟩) ∧ f 5 = .string (edgesB (saidB (deedW d.kind) (lineNums d)) (d.plan.edges.take k)) ∧ f 7 = I (k : Int) ∧ St w W ([Res.row (α := Int) 3 v31 (lineNums d) [], Res.row (α := ByteArray) 9 (.slice (some ⟨b16, 0, none⟩) 9 9) ([(⟨#[]⟩ : ByteArray), (⟨#[115, 117, 98, 109, 105, 116]⟩ : ByteArray), (⟨#[112, 111, 108, 108]⟩ : ByteArray), (⟨#[100, 111, 110, 101]⟩ : ByteArray), (⟨#[102, 97, 105, 108]⟩ : ByteArray), (⟨#[116, 105, 99, 107]⟩ : ByteArray), (⟨#[99, 97, 110, 99, 101, 108]⟩ : ByteArray), (⟨#[102, 111, 114, 103, 101, 116]⟩ : ByteArray), (⟨#[115, 116, 97, 114, 116]⟩ : ByteArray)]) [], Res.bx b1 [I d.kind, I d.run, I d.plan.prio, I d.plan.most, I d.plan.wait, I d.plan.tasks, v21_0, I d.task, I d.try_, I d.worker, I d.draw] 50])) (d.plan.edges.length - 0) ?_ ?_
        · exact ⟨0, (by omega), rfl, hs40_1, (Eq.trans (show _ = (.string (saidB (deedW d.kind) ((lineNums d).take i)) : Value) from hs40_5) (congrArg Value.string (by rw [show i = (lineNums d).length by omega, List.take_length]; rfl))), rfl, st39⟩
        intro m47 f48 W49 hJ50
        obtain ⟨k, hk, rfl, hs52_1, hs52_5, hs52_7, st51⟩ := hJ50
        have hes := edgesB_size (s := (saidB (deedW d.kind) (lineNums d))) (es := d.plan.edges.take k) (fun e he => hed e (List.mem_of_mem_take he))
        have hws := deedW_size d.kind
        have htl := List.length_take_le k d.plan.edges
        have hss := saidB_size (word := deedW d.kind) (l := (lineNums d)) h64
        refine wp_seq ?_
        refine wp_seq ?_
        refine sx_region ?_
        refine sx rfl (stp_move (v := I (k : Int)) hs52_7 ?_)
        refine sx rfl (stp_fieldAddr fa_Deed_2 hs52_1 ?_)
        refine sx rfl (stp_fieldAddr fa_Plan_4 rfl ?_)
        refine sx rfl (stp_load_bx ld_EdgeS rfl rfl (st51.get 2 rfl) (i := 6) rfl rfl ?_)
        refine sx rfl (stp_len sl_EdgeS rfl h21_0 ?_)
        refine sx rfl (stp_lss rfl rfl ?_)
        refine sx_nil ?_
        refine sx_if rfl (fun h53 => ?_) (fun h53 => ?_)
        · skip
          have h53p := of_decide_eq_true h53
          refine wp_skip ?_
          refine wp_seq ?_
          refine wp_block ?_
          have hi86a04 : k < d.plan.edges.length := (by omega)
          have hq_ := idx h21_0 (i := k) hi86a04
          obtain ⟨b54, o54, cs54, f54, hp54, hr54, hc54, hm54⟩ := hq_
          have hk55 := hc54
          obtain ⟨he55, rfl, hok55⟩ := hk55
          have he55 : _ = [I (d.plan.edges[k]'hi86a04).from_, I (d.plan.edges[k]'hi86a04).to_] := he55
          subst he55
          have hek := hed _ (List.getElem_mem (l := d.plan.edges) (n := k) (by omega))
          simp only [Edge.ok, I64] at hek
          have hz1 := itoaB_size (z := (d.plan.edges[k]'(by omega)).from_) (by omega)
          have hz2 := itoaB_size (z := (d.plan.edges[k]'(by omega)).to_) (by omega)
          refine sx_any [Pl.is (.string (edgesB (saidB (deedW d.kind) (lineNums d)) (d.plan.edges.take k))), Pl.is (.string ((edgesB (saidB (deedW d.kind) (lineNums d)) (d.plan.edges.take k)) ++ (⟨#[32]⟩ : ByteArray))), Pl.is (.pointer (some ⟨b1, 0 + 2, none⟩)), Pl.is (.pointer (some ⟨b1, 0 + 2 + 4, none⟩)), Pl.is (v21_0) (Sl.yl h21_0), Pl.is (I (k : Int)), Pl.is (.pointer (some ⟨b54, o54, none⟩)), Pl.is (.pointer (some ⟨b54, o54 + 0, none⟩)), Pl.is (I (d.plan.edges[k]'hi86a04).from_), Pl.is (.string (itoaB (d.plan.edges[k]'hi86a04).from_)), Pl.is (.string (((edgesB (saidB (deedW d.kind) (lineNums d)) (d.plan.edges.take k)) ++ (⟨#[32]⟩ : ByteArray)) ++ (itoaB (d.plan.edges[k]'hi86a04).from_))), Pl.is (.string ((((edgesB (saidB (deedW d.kind) (lineNums d)) (d.plan.edges.take k)) ++ (⟨#[32]⟩ : ByteArray)) ++ (itoaB (d.plan.edges[k]'hi86a04).from_)) ++ (⟨#[62]⟩ : ByteArray))), Pl.is (.pointer (some ⟨b1, 0 + 2, none⟩)), Pl.is (.pointer (some ⟨b1, 0 + 2 + 4, none⟩)), Pl.is (v21_0) (Sl.yl h21_0), Pl.is (I (k : Int)), Pl.is (.pointer (some ⟨b54, o54, none⟩)), Pl.is (.pointer (some ⟨b54, o54 + 1, none⟩)), Pl.is (I (d.plan.edges[k]'hi86a04).to_), Pl.is (.string (itoaB (d.plan.edges[k]'hi86a04).to_)), Pl.is (.string (((((edgesB (saidB (deedW d.kind) (lineNums d)) (d.plan.edges.take k)) ++ (⟨#[32]⟩ : ByteArray)) ++ (itoaB (d.plan.edges[k]'hi86a04).from_)) ++ (⟨#[62]⟩ : ByteArray)) ++ (itoaB (d.plan.edges[k]'hi86a04).to_))), Pl.is (.string (((((edgesB (saidB (deedW d.kind) (lineNums d)) (d.plan.edges.take k)) ++ (⟨#[32]⟩ : ByteArray)) ++ (itoaB (d.plan.edges[k]'hi86a04).from_)) ++ (⟨#[62]⟩ : ByteArray)) ++ (itoaB (d.plan.edges[k]'hi86a04).to_)))] mix (by rfl) st51 ⟨(fun f W hst hbl hd hf => stp_move (v := .string (edgesB (saidB (deedW d.kind) (lineNums d)) (d.plan.edges.take k))) ((hf 5 rfl).trans hs52_5) ⟨Below.refl _ _, rfl⟩), (fun f W hst hbl hd hf => stp_sadd (hd 0 90 rfl rfl) rfl (by simp only [ByteArray.size_append, bsz, List.size_toArray, List.length_cons, List.length_nil]; omega) ⟨Below.refl _ _, rfl⟩), (fun f W hst hbl hd hf => stp_fieldAddr fa_Deed_2 ((hf 1 rfl).trans hs52_1) ⟨Below.refl _ _, rfl⟩), (fun f W hst hbl hd hf => stp_fieldAddr fa_Plan_4 (hd 2 92 rfl rfl) ⟨Below.refl _ _, rfl⟩), (fun f W hst hbl hd hf => stp_load_bx ld_EdgeS rfl (hd 3 93 rfl rfl) (hst.get 2 rfl) (i := 6) rfl rfl ⟨Below.refl _ _, rfl⟩), (fun f W hst hbl hd hf => stp_move (v := I (k : Int)) ((hf 7 rfl).trans hs52_7) ⟨Below.refl _ _, rfl⟩), (fun f W hst hbl hd hf => stp_indexAddr sl_EdgeS (hd 4 94 rfl rfl) hp54 (hd 5 95 rfl rfl) rfl ⟨Below.refl _ _, rfl⟩), (fun f W hst hbl hd hf => stp_fieldAddr fa_Edge_0 (hd 6 96 rfl rfl) ⟨Below.refl _ _, rfl⟩), (fun f W hst hbl hd hf => stp_load_rg ld_int rfl (hd 7 97 rfl rfl) hr54 hst.below (i := 0) rfl rfl ⟨Below.refl _ _, rfl⟩), (fun f W hst hbl hd hf => stp_call1 Tryd.func24 rfl (hd 8 98 rfl rfl) ((DecimalS W (d.plan.edges[k]'hi86a04).from_ (by omega)).mono (by rintro e W2 ⟨rfl, hk⟩; exact ⟨_, rfl, hk.below, rfl⟩))), (fun f W hst hbl hd hf => stp_sadd (hd 1 91 rfl rfl) (hd 9 99 rfl rfl) (by simp only [ByteArray.size_append, bsz, List.size_toArray, List.length_cons, List.length_nil]; omega) ⟨Below.refl _ _, rfl⟩), (fun f W hst hbl hd hf => stp_sadd (hd 10 100 rfl rfl) rfl (by simp only [ByteArray.size_append, bsz, List.size_toArray, List.length_cons, List.length_nil]; omega) ⟨Below.refl _ _, rfl⟩), (fun f W hst hbl hd hf => stp_fieldAddr fa_Deed_2 ((hf 1 rfl).trans hs52_1) ⟨Below.refl _ _, rfl⟩), (fun f W hst hbl hd hf => stp_fieldAddr fa_Plan_4 (hd 12 102 rfl rfl) ⟨Below.refl _ _, rfl⟩), (fun f W hst hbl hd hf => stp_load_bx ld_EdgeS rfl (hd 13 103 rfl rfl) (hst.get 2 rfl) (i := 6) rfl rfl ⟨Below.refl _ _, rfl⟩), (fun f W hst hbl hd hf => stp_move (v := I (k : Int)) ((hf 7 rfl).trans hs52_7) ⟨Below.refl _ _, rfl⟩), (fun f W hst hbl hd hf => stp_indexAddr sl_EdgeS (hd 14 104 rfl rfl) hp54 (hd 15 105 rfl rfl) rfl ⟨Below.refl _ _, rfl⟩), (fun f W hst hbl hd hf => stp_fieldAddr fa_Edge_1 (hd 16 106 rfl rfl) ⟨Below.refl _ _, rfl⟩), (fun f W hst hbl hd hf => stp_load_rg ld_int rfl (hd 17 107 rfl rfl) hr54 hst.below (i := 1) rfl rfl ⟨Below.refl _ _, rfl⟩), (fun f W hst hbl hd hf => stp_call1 Tryd.func24 rfl (hd 18 108 rfl rfl) ((DecimalS W (d.plan.edges[k]'hi86a04).to_ (by omega)).mono (by rintro e W2 ⟨rfl, hk⟩; exact ⟨_, rfl, hk.below, rfl⟩))), (fun f W hst hbl hd hf => stp_sadd (hd 11 101 rfl rfl) (hd 19 109 rfl rfl) (by simp only [ByteArray.size_append, bsz, List.size_toArray, List.length_cons, List.length_nil]; omega) ⟨Below.refl _ _, rfl⟩), (fun f W hst hbl hd hf => stp_assign (v := .string (((((edgesB (saidB (deedW d.kind) (lineNums d)) (d.plan.edges.take k)) ++ (⟨#[32]⟩ : ByteArray)) ++ (itoaB (d.plan.edges[k]'hi86a04).from_)) ++ (⟨#[62]⟩ : ByteArray)) ++ (itoaB (d.plan.edges[k]'hi86a04).to_))) (hd 20 110 rfl rfl) ⟨Below.refl _ _, rfl⟩), trivial⟩ ?_
          intro f56 W57 st58 hb59 hv60 hf61
          refine sx_region ?_
          refine sx rfl (stp_move (v := I (k : Int)) ((hf61 7 rfl).trans hs52_7) ?_)
          refine sx rfl (stp_add rfl rfl (by (simp only [I64] at *; omega)) ?_)
          refine sx rfl (stp_assign (v := I ((k : Int) + 1)) rfl ?_)
          refine sx_nil ?_
          exact ⟨_, d.plan.edges.length - (k + 1), (by omega), rfl, k + 1, (by omega), rfl, ((hf61 1 rfl).trans hs52_1), (Eq.trans (show _ = (.string (((((edgesB (saidB (deedW d.kind) (lineNums d)) (d.plan.edges.take k)) ++ (⟨#[32]⟩ : ByteArray)) ++ (itoaB (d.plan.edges[k]'hi86a04).from_)) ++ (⟨#[62]⟩ : ByteArray)) ++ (itoaB (d.plan.edges[k]'hi86a04).to_)) : Value) from (hv60 21 5 (by decide) rfl)) (congrArg Value.string (by rw [edgesB_step (by omega), edgeB]; apply ByteArray.ext; simp))), rfl, st58⟩
        · skip
          have h53p := of_decide_eq_false h53
          refine wp_exit ?_
          refine wp_seq ?_
          refine sx_region ?_
          refine sx rfl (stp_move (v := .string (edgesB (saidB (deedW d.kind) (lineNums d)) (d.plan.edges.take k))) hs52_5 ?_)
          refine sx rfl (stp_assign (v := .string (edgesB (saidB (deedW d.kind) (lineNums d)) (d.plan.edges.take k))) rfl ?_)
          refine sx_nil ?_
          refine wp_ret ?_; repeat (first | refine then_ret ?_ | refine blk_ret ?_)
          refine ret1 Tryd.results16 rfl ?_
          obtain rfl : k = d.plan.edges.length := by omega
          exact ⟨(congrArg (fun z => Ending.returned (.string z)) (by unfold deedLine; rw [(bnot_f h10), if_pos rfl, List.take_length])), st51.bare⟩
    · skip
      have h24p := of_decide_eq_false h24
      refine wp_seq ?_
      refine sx_region ?_
      refine sx rfl (stp_eql rfl rfl ?_)
      refine sx rfl (stp_assign (v := .bool (decide (d.kind = 2))) rfl ?_)
      refine sx_nil ?_
      refine sx_if rfl (fun h62 => ?_) (fun h62 => ?_)
      · skip
        have h62p := of_decide_eq_true h62
        refine sx_region ?_
        refine sx rfl (stp_move (v := (.slice (some ⟨b11, 0, none⟩) 0 0)) rfl ?_)
        refine sx rfl (stp_fieldAddr fa_Deed_5 rfl ?_)
        refine sx rfl (stp_load_bx ld_int rfl rfl (st22.get 2 rfl) (i := 9) rfl rfl ?_)
        refine sx rfl (stp_fieldAddr fa_Deed_6 rfl ?_)
        refine sx rfl (stp_load_bx ld_int rfl rfl (st22.get 2 rfl) (i := 10) rfl rfl ?_)
        refine sx rfl (stp_buildSlice (cs := [I d.worker, I d.draw]) (e := 3) (pcons (v := I d.worker) rfl (pcons (v := I d.draw) rfl pnil)) (run_buildSliceN ap_IntS _ rfl (lc_cons rfl (lc_cons rfl lc_nil))) st22 ?_); intro b63 W64 hb65 st66
        have st68 := st66.f2
        refine sx rfl (stp_append_bx (ys := [d.worker, d.draw]) ap_IntS rfl rfl rfl st68 (Elems.ic (by simp only [I64]; omega) (Elems.ic (by simp only [I64]; omega) Elems.i0)) (by simp only [List.length_nil, List.length_cons, maxLen]; omega) (by simp only [List.length_nil, List.length_cons]; omega) ?_); intro v69 W70 st71
        refine sx rfl (stp_assign (v := v69) rfl ?_)
        refine sx_nil ?_
        refine wp_seq ?_
        refine sx_region ?_
        have hlist : [] ++ [d.worker, d.draw] = (lineNums d) := by unfold lineNums deedNums; first | rw [if_pos (by omega)]; rfl | (rw [if_neg (by omega), if_neg (by omega)]; first | (rw [if_pos (by omega)]; rfl) | (rw [if_neg (by omega), if_pos (by omega)]; rfl) | (rw [if_neg (by omega), if_neg (by omega), if_pos (by omega)]; rfl) | (rw [if_neg (by omega), if_neg (by omega), if_neg (by omega)]))
        have st72 := st71; rw [hlist] at st72
        skip
        refine sx rfl (stp_move (v := .string (([(⟨#[]⟩ : ByteArray), (⟨#[115, 117, 98, 109, 105, 116]⟩ : ByteArray), (⟨#[112, 111, 108, 108]⟩ : ByteArray), (⟨#[100, 111, 110, 101]⟩ : ByteArray), (⟨#[102, 97, 105, 108]⟩ : ByteArray), (⟨#[116, 105, 99, 107]⟩ : ByteArray), (⟨#[99, 97, 110, 99, 101, 108]⟩ : ByteArray), (⟨#[102, 111, 114, 103, 101, 116]⟩ : ByteArray), (⟨#[115, 116, 97, 114, 116]⟩ : ByteArray)])[(d.kind).toNat]'hic1759)) rfl ?_)
        refine sx rfl (stp_assign (v := .string (([(⟨#[]⟩ : ByteArray), (⟨#[115, 117, 98, 109, 105, 116]⟩ : ByteArray), (⟨#[112, 111, 108, 108]⟩ : ByteArray), (⟨#[100, 111, 110, 101]⟩ : ByteArray), (⟨#[102, 97, 105, 108]⟩ : ByteArray), (⟨#[116, 105, 99, 107]⟩ : ByteArray), (⟨#[99, 97, 110, 99, 101, 108]⟩ : ByteArray), (⟨#[102, 111, 114, 103, 101, 116]⟩ : ByteArray), (⟨#[115, 116, 97, 114, 116]⟩ : ByteArray)])[(d.kind).toNat]'hic1759)) rfl ?_)
        refine sx_nil ?_
        refine wp_seq ?_
        refine wp_seq ?_
        refine sx_region ?_
        refine sx rfl (stp_assign (v := I 0) rfl ?_)
        refine sx_nil ?_
        refine wp_block ?_
        refine sx_loop (fun (m : Nat) (f : Nat → Value) (W : World) => ∃ (i : Nat), i ≤ (lineNums d).length ∧ m = (lineNums d).length - i ∧ f 1 = .pointer (some ⟨b1, 0, none⟩) ∧ f 3 = v69 ∧ f 5 = .string (saidB (deedW d.kind) ((lineNums d).take i)) ∧ f 6 = I (i : Int) ∧ St w W ([Res.row (α := Int) 3 v69 (lineNums d) [], Res.row (α := ByteArray) 9 (.slice (some ⟨b16, 0, none⟩) 9 9) ([(⟨#[]⟩ : ByteArray), (⟨#[115, 117, 98, 109, 105, 116]⟩ : ByteArray), (⟨#[112, 111, 108, 108]⟩ : ByteArray), (⟨#[100, 111, 110, 101]⟩ : ByteArray), (⟨#[102, 97, 105, 108]⟩ : ByteArray), (⟨#[116, 105, 99, 107]⟩ : ByteArray), (⟨#[99, 97, 110, 99, 101, 108]⟩ : ByteArray), (⟨#[102, 111, 114, 103, 101, 116]⟩ : ByteArray), (⟨#[115, 116, 97, 114, 116]⟩ : ByteArray)]) [], Res.bx b1 [I d.kind, I d.run, I d.plan.prio, I d.plan.most, I d.plan.wait, I d.plan.tasks, v21_0, I d.task, I d.try_, I d.worker, I d.draw] 50])) ((lineNums d).length - 0) ?_ ?_
        · exact ⟨0, (by omega), rfl, rfl, rfl, (Eq.trans (show _ = (.string (([(⟨#[]⟩ : ByteArray), (⟨#[115, 117, 98, 109, 105, 116]⟩ : ByteArray), (⟨#[112, 111, 108, 108]⟩ : ByteArray), (⟨#[100, 111, 110, 101]⟩ : ByteArray), (⟨#[102, 97, 105, 108]⟩ : ByteArray), (⟨#[116, 105, 99, 107]⟩ : ByteArray), (⟨#[99, 97, 110, 99, 101, 108]⟩ : ByteArray), (⟨#[102, 111, 114, 103, 101, 116]⟩ : ByteArray), (⟨#[115, 116, 97, 114, 116]⟩ : ByteArray)])[(d.kind).toNat]'hic1759) : Value) from rfl) (congrArg Value.string (deedW_S (by omega) _))), rfl, st72⟩
        intro m73 f74 W75 hJ76
        obtain ⟨i, hi, rfl, hs78_1, hs78_3, hs78_5, hs78_6, st77⟩ := hJ76
        have hss := saidB_size (word := deedW d.kind) (l := (lineNums d).take i) (fun n hn => h64 n (List.mem_of_mem_take hn))
        have htl := List.length_take_le i (lineNums d)
        have hws := deedW_size d.kind
        refine wp_seq ?_
        refine wp_seq ?_
        refine sx_region ?_
        refine sx rfl (stp_move (v := I (i : Int)) hs78_6 ?_)
        refine sx rfl (stp_move (v := v69) hs78_3 ?_)
        refine sx rfl (stp_len sl_IntS rfl (row_Sl (st77.get 0 rfl)) ?_)
        refine sx rfl (stp_lss rfl rfl ?_)
        refine sx_nil ?_
        refine sx_if rfl (fun h79 => ?_) (fun h79 => ?_)
        · skip
          have h79p := of_decide_eq_true h79
          refine wp_skip ?_
          refine wp_seq ?_
          refine wp_block ?_
          refine sx_region ?_
          refine sx rfl (stp_move (v := .string (saidB (deedW d.kind) ((lineNums d).take i))) hs78_5 ?_)
          refine sx rfl (stp_sadd rfl rfl (by simp only [ByteArray.size_append, bsz, List.size_toArray, List.length_cons, List.length_nil]; omega) ?_)
          refine sx rfl (stp_move (v := v69) hs78_3 ?_)
          refine sx rfl (stp_move (v := I (i : Int)) hs78_6 ?_)
          have hi01093 : i < (lineNums d).length := (by omega)
          have hq_ := idx (row_Sl (st77.get 0 rfl)) (i := i) hi01093
          obtain ⟨b80, o80, cs80, f80, hp80, hr80, hc80, hm80⟩ := hq_
          have hk80 := hc80
          obtain ⟨rfl, rfl, hok80⟩ := hk80
          refine sx rfl (stp_indexAddr sl_IntS rfl hp80 rfl rfl ?_)
          have hik := h64 _ (List.getElem_mem (l := lineNums d) (n := i) (by omega))
          simp only [I64] at hik
          have hiz := itoaB_size (z := ((lineNums d)[i]'(by omega))) (by omega)
          refine sx rfl (stp_load_rg ld_int rfl rfl hr80 (Below.refl _ _) (i := 0) rfl rfl ?_)
          refine sx rfl (stp_call1 Tryd.func24 rfl rfl ((DecimalS W75 ((lineNums d)[i]'hi01093) (by omega)).mono ?_)); rintro _ W81 ⟨rfl, hk82⟩; refine ⟨_, rfl, ?_⟩
          have st83 := St.call st77 hk82
          refine sx rfl (stp_sadd rfl rfl (by simp only [ByteArray.size_append, bsz, List.size_toArray, List.length_cons, List.length_nil]; omega) ?_)
          refine sx rfl (stp_assign (v := .string (((saidB (deedW d.kind) ((lineNums d).take i)) ++ (⟨#[32]⟩ : ByteArray)) ++ (itoaB ((lineNums d)[i]'hi01093)))) rfl ?_)
          refine sx_nil ?_
          refine sx_region ?_
          refine sx rfl (stp_move (v := I (i : Int)) hs78_6 ?_)
          refine sx rfl (stp_add rfl rfl (by (simp only [I64] at *; omega)) ?_)
          refine sx rfl (stp_assign (v := I ((i : Int) + 1)) rfl ?_)
          refine sx_nil ?_
          exact ⟨_, (lineNums d).length - (i + 1), (by omega), rfl, i + 1, (by omega), rfl, hs78_1, hs78_3, (Eq.trans (show _ = (.string (((saidB (deedW d.kind) ((lineNums d).take i)) ++ (⟨#[32]⟩ : ByteArray)) ++ (itoaB ((lineNums d)[i]'hi01093))) : Value) from rfl) (congrArg Value.string (by rw [saidB_step (by omega)]; apply ByteArray.ext; simp))), rfl, st83⟩
        · skip
          have h79p := of_decide_eq_false h79
          refine wp_exit ?_
          refine wp_seq ?_
          refine wp_seq ?_
          refine sx_region ?_
          refine sx rfl (stp_assign (v := I 0) rfl ?_)
          refine sx_nil ?_
          refine wp_block ?_
          refine sx_loop (fun (m : Nat) (f : Nat → Value) (W : World) => ∃ (k : Nat), k ≤ d.plan.edges.length ∧ m = d.plan.edges.length - k ∧ f 1 = .pointer (some ⟨b1, 0, none⟩) ∧ f 5 = .string (edgesB (saidB (deedW d.kind) (lineNums d)) (d.plan.edges.take k)) ∧ f 7 = I (k : Int) ∧ St w W ([Res.row (α := Int) 3 v69 (lineNums d) [], Res.row (α := ByteArray) 9 (.slice (some ⟨b16, 0, none⟩) 9 9) ([(⟨#[]⟩ : ByteArray), (⟨#[115, 117, 98, 109, 105, 116]⟩ : ByteArray), (⟨#[112, 111, 108, 108]⟩ : ByteArray), (⟨#[100, 111, 110, 101]⟩ : ByteArray), (⟨#[102, 97, 105, 108]⟩ : ByteArray), (⟨#[116, 105, 99, 107]⟩ : ByteArray), (⟨#[99, 97, 110, 99, 101, 108]⟩ : ByteArray), (⟨#[102, 111, 114, 103, 101, 116]⟩ : ByteArray), (⟨#[115, 116, 97, 114, 116]⟩ : ByteArray)]) [], Res.bx b1 [I d.kind, I d.run, I d.plan.prio, I d.plan.most, I d.plan.wait, I d.plan.tasks, v21_0, I d.task, I d.try_, I d.worker, I d.draw] 50])) (d.plan.edges.length - 0) ?_ ?_
          · exact ⟨0, (by omega), rfl, hs78_1, (Eq.trans (show _ = (.string (saidB (deedW d.kind) ((lineNums d).take i)) : Value) from hs78_5) (congrArg Value.string (by rw [show i = (lineNums d).length by omega, List.take_length]; rfl))), rfl, st77⟩
          intro m85 f86 W87 hJ88
          obtain ⟨k, hk, rfl, hs90_1, hs90_5, hs90_7, st89⟩ := hJ88
          have hes := edgesB_size (s := (saidB (deedW d.kind) (lineNums d))) (es := d.plan.edges.take k) (fun e he => hed e (List.mem_of_mem_take he))
          have hws := deedW_size d.kind
          have htl := List.length_take_le k d.plan.edges
          have hss := saidB_size (word := deedW d.kind) (l := (lineNums d)) h64
          refine wp_seq ?_
          refine wp_seq ?_
          refine sx_region ?_
          refine sx rfl (stp_move (v := I (k : Int)) hs90_7 ?_)
          refine sx rfl (stp_fieldAddr fa_Deed_2 hs90_1 ?_)
          refine sx rfl (stp_fieldAddr fa_Plan_4 rfl ?_)
          refine sx rfl (stp_load_bx ld_EdgeS rfl rfl (st89.get 2 rfl) (i := 6) rfl rfl ?_)
          refine sx rfl (stp_len sl_EdgeS rfl h21_0 ?_)
          refine sx rfl (stp_lss rfl rfl ?_)
          refine sx_nil ?_
          refine sx_if rfl (fun h91 => ?_) (fun h91 => ?_)
          · skip
            have h91p := of_decide_eq_true h91
            refine wp_skip ?_
            refine wp_seq ?_
            refine wp_block ?_
            have hi86a04 : k < d.plan.edges.length := (by omega)
            have hq_ := idx h21_0 (i := k) hi86a04
            obtain ⟨b92, o92, cs92, f92, hp92, hr92, hc92, hm92⟩ := hq_
            have hk93 := hc92
            obtain ⟨he93, rfl, hok93⟩ := hk93
            have he93 : _ = [I (d.plan.edges[k]'hi86a04).from_, I (d.plan.edges[k]'hi86a04).to_] := he93
            subst he93
            have hek := hed _ (List.getElem_mem (l := d.plan.edges) (n := k) (by omega))
            simp only [Edge.ok, I64] at hek
            have hz1 := itoaB_size (z := (d.plan.edges[k]'(by omega)).from_) (by omega)
            have hz2 := itoaB_size (z := (d.plan.edges[k]'(by omega)).to_) (by omega)
            refine sx_any [Pl.is (.string (edgesB (saidB (deedW d.kind) (lineNums d)) (d.plan.edges.take k))), Pl.is (.string ((edgesB (saidB (deedW d.kind) (lineNums d)) (d.plan.edges.take k)) ++ (⟨#[32]⟩ : ByteArray))), Pl.is (.pointer (some ⟨b1, 0 + 2, none⟩)), Pl.is (.pointer (some ⟨b1, 0 + 2 + 4, none⟩)), Pl.is (v21_0) (Sl.yl h21_0), Pl.is (I (k : Int)), Pl.is (.pointer (some ⟨b92, o92, none⟩)), Pl.is (.pointer (some ⟨b92, o92 + 0, none⟩)), Pl.is (I (d.plan.edges[k]'hi86a04).from_), Pl.is (.string (itoaB (d.plan.edges[k]'hi86a04).from_)), Pl.is (.string (((edgesB (saidB (deedW d.kind) (lineNums d)) (d.plan.edges.take k)) ++ (⟨#[32]⟩ : ByteArray)) ++ (itoaB (d.plan.edges[k]'hi86a04).from_))), Pl.is (.string ((((edgesB (saidB (deedW d.kind) (lineNums d)) (d.plan.edges.take k)) ++ (⟨#[32]⟩ : ByteArray)) ++ (itoaB (d.plan.edges[k]'hi86a04).from_)) ++ (⟨#[62]⟩ : ByteArray))), Pl.is (.pointer (some ⟨b1, 0 + 2, none⟩)), Pl.is (.pointer (some ⟨b1, 0 + 2 + 4, none⟩)), Pl.is (v21_0) (Sl.yl h21_0), Pl.is (I (k : Int)), Pl.is (.pointer (some ⟨b92, o92, none⟩)), Pl.is (.pointer (some ⟨b92, o92 + 1, none⟩)), Pl.is (I (d.plan.edges[k]'hi86a04).to_), Pl.is (.string (itoaB (d.plan.edges[k]'hi86a04).to_)), Pl.is (.string (((((edgesB (saidB (deedW d.kind) (lineNums d)) (d.plan.edges.take k)) ++ (⟨#[32]⟩ : ByteArray)) ++ (itoaB (d.plan.edges[k]'hi86a04).from_)) ++ (⟨#[62]⟩ : ByteArray)) ++ (itoaB (d.plan.edges[k]'hi86a04).to_))), Pl.is (.string (((((edgesB (saidB (deedW d.kind) (lineNums d)) (d.plan.edges.take k)) ++ (⟨#[32]⟩ : ByteArray)) ++ (itoaB (d.plan.edges[k]'hi86a04).from_)) ++ (⟨#[62]⟩ : ByteArray)) ++ (itoaB (d.plan.edges[k]'hi86a04).to_)))] mix (by rfl) st89 ⟨(fun f W hst hbl hd hf => stp_move (v := .string (edgesB (saidB (deedW d.kind) (lineNums d)) (d.plan.edges.take k))) ((hf 5 rfl).trans hs90_5) ⟨Below.refl _ _, rfl⟩), (fun f W hst hbl hd hf => stp_sadd (hd 0 90 rfl rfl) rfl (by simp only [ByteArray.size_append, bsz, List.size_toArray, List.length_cons, List.length_nil]; omega) ⟨Below.refl _ _, rfl⟩), (fun f W hst hbl hd hf => stp_fieldAddr fa_Deed_2 ((hf 1 rfl).trans hs90_1) ⟨Below.refl _ _, rfl⟩), (fun f W hst hbl hd hf => stp_fieldAddr fa_Plan_4 (hd 2 92 rfl rfl) ⟨Below.refl _ _, rfl⟩), (fun f W hst hbl hd hf => stp_load_bx ld_EdgeS rfl (hd 3 93 rfl rfl) (hst.get 2 rfl) (i := 6) rfl rfl ⟨Below.refl _ _, rfl⟩), (fun f W hst hbl hd hf => stp_move (v := I (k : Int)) ((hf 7 rfl).trans hs90_7) ⟨Below.refl _ _, rfl⟩), (fun f W hst hbl hd hf => stp_indexAddr sl_EdgeS (hd 4 94 rfl rfl) hp92 (hd 5 95 rfl rfl) rfl ⟨Below.refl _ _, rfl⟩), (fun f W hst hbl hd hf => stp_fieldAddr fa_Edge_0 (hd 6 96 rfl rfl) ⟨Below.refl _ _, rfl⟩), (fun f W hst hbl hd hf => stp_load_rg ld_int rfl (hd 7 97 rfl rfl) hr92 hst.below (i := 0) rfl rfl ⟨Below.refl _ _, rfl⟩), (fun f W hst hbl hd hf => stp_call1 Tryd.func24 rfl (hd 8 98 rfl rfl) ((DecimalS W (d.plan.edges[k]'hi86a04).from_ (by omega)).mono (by rintro e W2 ⟨rfl, hk⟩; exact ⟨_, rfl, hk.below, rfl⟩))), (fun f W hst hbl hd hf => stp_sadd (hd 1 91 rfl rfl) (hd 9 99 rfl rfl) (by simp only [ByteArray.size_append, bsz, List.size_toArray, List.length_cons, List.length_nil]; omega) ⟨Below.refl _ _, rfl⟩), (fun f W hst hbl hd hf => stp_sadd (hd 10 100 rfl rfl) rfl (by simp only [ByteArray.size_append, bsz, List.size_toArray, List.length_cons, List.length_nil]; omega) ⟨Below.refl _ _, rfl⟩), (fun f W hst hbl hd hf => stp_fieldAddr fa_Deed_2 ((hf 1 rfl).trans hs90_1) ⟨Below.refl _ _, rfl⟩), (fun f W hst hbl hd hf => stp_fieldAddr fa_Plan_4 (hd 12 102 rfl rfl) ⟨Below.refl _ _, rfl⟩), (fun f W hst hbl hd hf => stp_load_bx ld_EdgeS rfl (hd 13 103 rfl rfl) (hst.get 2 rfl) (i := 6) rfl rfl ⟨Below.refl _ _, rfl⟩), (fun f W hst hbl hd hf => stp_move (v := I (k : Int)) ((hf 7 rfl).trans hs90_7) ⟨Below.refl _ _, rfl⟩), (fun f W hst hbl hd hf => stp_indexAddr sl_EdgeS (hd 14 104 rfl rfl) hp92 (hd 15 105 rfl rfl) rfl ⟨Below.refl _ _, rfl⟩), (fun f W hst hbl hd hf => stp_fieldAddr fa_Edge_1 (hd 16 106 rfl rfl) ⟨Below.refl _ _, rfl⟩), (fun f W hst hbl hd hf => stp_load_rg ld_int rfl (hd 17 107 rfl rfl) hr92 hst.below (i := 1) rfl rfl ⟨Below.refl _ _, rfl⟩), (fun f W hst hbl hd hf => stp_call1 Tryd.func24 rfl (hd 18 108 rfl rfl) ((DecimalS W (d.plan.edges[k]'hi86a04).to_ (by omega)).mono (by rintro e W2 ⟨rfl, hk⟩; exact ⟨_, rfl, hk.below, rfl⟩))), (fun f W hst hbl hd hf => stp_sadd (hd 11 101 rfl rfl) (hd 19 109 rfl rfl) (by simp only [ByteArray.size_append, bsz, List.size_toArray, List.length_cons, List.length_nil]; omega) ⟨Below.refl _ _, rfl⟩), (fun f W hst hbl hd hf => stp_assign (v := .string (((((edgesB (saidB (deedW d.kind) (lineNums d)) (d.plan.edges.take k)) ++ (⟨#[32]⟩ : ByteArray)) ++ (itoaB (d.plan.edges[k]'hi86a04).from_)) ++ (⟨#[62]⟩ : ByteArray)) ++ (itoaB (d.plan.edges[k]'hi86a04).to_))) (hd 20 110 rfl rfl) ⟨Below.refl _ _, rfl⟩), trivial⟩ ?_
            intro f94 W95 st96 hb97 hv98 hf99
            refine sx_region ?_
            refine sx rfl (stp_move (v := I (k : Int)) ((hf99 7 rfl).trans hs90_7) ?_)
            refine sx rfl (stp_add rfl rfl (by (simp only [I64] at *; omega)) ?_)
            refine sx rfl (stp_assign (v := I ((k : Int) + 1)) rfl ?_)
            refine sx_nil ?_
            exact ⟨_, d.plan.edges.length - (k + 1), (by omega), rfl, k + 1, (by omega), rfl, ((hf99 1 rfl).trans hs90_1), (Eq.trans (show _ = (.string (((((edgesB (saidB (deedW d.kind) (lineNums d)) (d.plan.edges.take k)) ++ (⟨#[32]⟩ : ByteArray)) ++ (itoaB (d.plan.edges[k]'hi86a04).from_)) ++ (⟨#[62]⟩ : ByteArray)) ++ (itoaB (d.plan.edges[k]'hi86a04).to_)) : Value) from (hv98 21 5 (by decide) rfl)) (congrArg Value.string (by rw [edgesB_step (by omega), edgeB]; apply ByteArray.ext; simp))), rfl, st96⟩
          · skip
            have h91p := of_decide_eq_false h91
            refine wp_exit ?_
            refine wp_seq ?_
            refine sx_region ?_
            refine sx rfl (stp_move (v := .string (edgesB (saidB (deedW d.kind) (lineNums d)) (d.plan.edges.take k))) hs90_5 ?_)
            refine sx rfl (stp_assign (v := .string (edgesB (saidB (deedW d.kind) (lineNums d)) (d.plan.edges.take k))) rfl ?_)
            refine sx_nil ?_
            refine wp_ret ?_; repeat (first | refine then_ret ?_ | refine blk_ret ?_)
            refine ret1 Tryd.results16 rfl ?_
            obtain rfl : k = d.plan.edges.length := by omega
            exact ⟨(congrArg (fun z => Ending.returned (.string z)) (by unfold deedLine; rw [(bnot_f h10), if_pos rfl, List.take_length])), st89.bare⟩
      · skip
        have h62p := of_decide_eq_false h62
        refine wp_seq ?_
        refine wp_seq ?_
        refine sx_region ?_
        refine sx rfl (stp_eql rfl rfl ?_)
        refine sx rfl (stp_assign (v := .bool (decide (d.kind = 3))) rfl ?_)
        refine sx_nil ?_
        refine sx_if rfl (fun h100 => ?_) (fun h100 => ?_)
        · skip
          have h100p := of_decide_eq_true h100
          refine wp_skip ?_
          refine sx_t rfl h100 ?_
          refine sx_region ?_
          refine sx rfl (stp_move (v := (.slice (some ⟨b11, 0, none⟩) 0 0)) rfl ?_)
          refine sx rfl (stp_fieldAddr fa_Deed_1 rfl ?_)
          refine sx rfl (stp_load_bx ld_int rfl rfl (st22.get 2 rfl) (i := 1) rfl rfl ?_)
          refine sx rfl (stp_fieldAddr fa_Deed_3 rfl ?_)
          refine sx rfl (stp_load_bx ld_int rfl rfl (st22.get 2 rfl) (i := 7) rfl rfl ?_)
          refine sx rfl (stp_fieldAddr fa_Deed_4 rfl ?_)
          refine sx rfl (stp_load_bx ld_int rfl rfl (st22.get 2 rfl) (i := 8) rfl rfl ?_)
          refine sx rfl (stp_buildSlice (cs := [I d.run, I d.task, I d.try_]) (e := 3) (pcons (v := I d.run) rfl (pcons (v := I d.task) rfl (pcons (v := I d.try_) rfl pnil))) (run_buildSliceN ap_IntS _ rfl (lc_cons rfl (lc_cons rfl (lc_cons rfl lc_nil)))) st22 ?_); intro b101 W102 hb103 st104
          have st106 := st104.f2
          refine sx rfl (stp_append_bx (ys := [d.run, d.task, d.try_]) ap_IntS rfl rfl rfl st106 (Elems.ic (by simp only [I64]; omega) (Elems.ic (by simp only [I64]; omega) (Elems.ic (by simp only [I64]; omega) Elems.i0))) (by simp only [List.length_nil, List.length_cons, maxLen]; omega) (by simp only [List.length_nil, List.length_cons]; omega) ?_); intro v107 W108 st109
          refine sx rfl (stp_assign (v := v107) rfl ?_)
          refine sx_nil ?_
          refine wp_seq ?_
          refine sx_region ?_
          have hlist : [] ++ [d.run, d.task, d.try_] = (lineNums d) := by unfold lineNums deedNums; first | rw [if_pos (by omega)]; rfl | (rw [if_neg (by omega), if_neg (by omega)]; first | (rw [if_pos (by omega)]; rfl) | (rw [if_neg (by omega), if_pos (by omega)]; rfl) | (rw [if_neg (by omega), if_neg (by omega), if_pos (by omega)]; rfl) | (rw [if_neg (by omega), if_neg (by omega), if_neg (by omega)]))
          have st110 := st109; rw [hlist] at st110
          skip
          refine sx rfl (stp_move (v := .string (([(⟨#[]⟩ : ByteArray), (⟨#[115, 117, 98, 109, 105, 116]⟩ : ByteArray), (⟨#[112, 111, 108, 108]⟩ : ByteArray), (⟨#[100, 111, 110, 101]⟩ : ByteArray), (⟨#[102, 97, 105, 108]⟩ : ByteArray), (⟨#[116, 105, 99, 107]⟩ : ByteArray), (⟨#[99, 97, 110, 99, 101, 108]⟩ : ByteArray), (⟨#[102, 111, 114, 103, 101, 116]⟩ : ByteArray), (⟨#[115, 116, 97, 114, 116]⟩ : ByteArray)])[(d.kind).toNat]'hic1759)) rfl ?_)
          refine sx rfl (stp_assign (v := .string (([(⟨#[]⟩ : ByteArray), (⟨#[115, 117, 98, 109, 105, 116]⟩ : ByteArray), (⟨#[112, 111, 108, 108]⟩ : ByteArray), (⟨#[100, 111, 110, 101]⟩ : ByteArray), (⟨#[102, 97, 105, 108]⟩ : ByteArray), (⟨#[116, 105, 99, 107]⟩ : ByteArray), (⟨#[99, 97, 110, 99, 101, 108]⟩ : ByteArray), (⟨#[102, 111, 114, 103, 101, 116]⟩ : ByteArray), (⟨#[115, 116, 97, 114, 116]⟩ : ByteArray)])[(d.kind).toNat]'hic1759)) rfl ?_)
          refine sx_nil ?_
          refine wp_seq ?_
          refine wp_seq ?_
          refine sx_region ?_
          refine sx rfl (stp_assign (v := I 0) rfl ?_)
          refine sx_nil ?_
          refine wp_block ?_
          refine sx_loop (fun (m : Nat) (f : Nat → Value) (W : World) => ∃ (i : Nat), i ≤ (lineNums d).length ∧ m = (lineNums d).length - i ∧ f 1 = .pointer (some ⟨b1, 0, none⟩) ∧ f 3 = v107 ∧ f 5 = .string (saidB (deedW d.kind) ((lineNums d).take i)) ∧ f 6 = I (i : Int) ∧ St w W ([Res.row (α := Int) 3 v107 (lineNums d) [], Res.row (α := ByteArray) 9 (.slice (some ⟨b16, 0, none⟩) 9 9) ([(⟨#[]⟩ : ByteArray), (⟨#[115, 117, 98, 109, 105, 116]⟩ : ByteArray), (⟨#[112, 111, 108, 108]⟩ : ByteArray), (⟨#[100, 111, 110, 101]⟩ : ByteArray), (⟨#[102, 97, 105, 108]⟩ : ByteArray), (⟨#[116, 105, 99, 107]⟩ : ByteArray), (⟨#[99, 97, 110, 99, 101, 108]⟩ : ByteArray), (⟨#[102, 111, 114, 103, 101, 116]⟩ : ByteArray), (⟨#[115, 116, 97, 114, 116]⟩ : ByteArray)]) [], Res.bx b1 [I d.kind, I d.run, I d.plan.prio, I d.plan.most, I d.plan.wait, I d.plan.tasks, v21_0, I d.task, I d.try_, I d.worker, I d.draw] 50])) ((lineNums d).length - 0) ?_ ?_
          · exact ⟨0, (by omega), rfl, rfl, rfl, (Eq.trans (show _ = (.string (([(⟨#[]⟩ : ByteArray), (⟨#[115, 117, 98, 109, 105, 116]⟩ : ByteArray), (⟨#[112, 111, 108, 108]⟩ : ByteArray), (⟨#[100, 111, 110, 101]⟩ : ByteArray), (⟨#[102, 97, 105, 108]⟩ : ByteArray), (⟨#[116, 105, 99, 107]⟩ : ByteArray), (⟨#[99, 97, 110, 99, 101, 108]⟩ : ByteArray), (⟨#[102, 111, 114, 103, 101, 116]⟩ : ByteArray), (⟨#[115, 116, 97, 114, 116]⟩ : ByteArray)])[(d.kind).toNat]'hic1759) : Value) from rfl) (congrArg Value.string (deedW_S (by omega) _))), rfl, st110⟩
          intro m111 f112 W113 hJ114
          obtain ⟨i, hi, rfl, hs116_1, hs116_3, hs116_5, hs116_6, st115⟩ := hJ114
          have hss := saidB_size (word := deedW d.kind) (l := (lineNums d).take i) (fun n hn => h64 n (List.mem_of_mem_take hn))
          have htl := List.length_take_le i (lineNums d)
          have hws := deedW_size d.kind
          refine wp_seq ?_
          refine wp_seq ?_
          refine sx_region ?_
          refine sx rfl (stp_move (v := I (i : Int)) hs116_6 ?_)
          refine sx rfl (stp_move (v := v107) hs116_3 ?_)
          refine sx rfl (stp_len sl_IntS rfl (row_Sl (st115.get 0 rfl)) ?_)
          refine sx rfl (stp_lss rfl rfl ?_)
          refine sx_nil ?_
          refine sx_if rfl (fun h117 => ?_) (fun h117 => ?_)
          · skip
            have h117p := of_decide_eq_true h117
            refine wp_skip ?_
            refine wp_seq ?_
            refine wp_block ?_
            refine sx_region ?_
            refine sx rfl (stp_move (v := .string (saidB (deedW d.kind) ((lineNums d).take i))) hs116_5 ?_)
            refine sx rfl (stp_sadd rfl rfl (by simp only [ByteArray.size_append, bsz, List.size_toArray, List.length_cons, List.length_nil]; omega) ?_)
            refine sx rfl (stp_move (v := v107) hs116_3 ?_)
            refine sx rfl (stp_move (v := I (i : Int)) hs116_6 ?_)
            have hi01093 : i < (lineNums d).length := (by omega)
            have hq_ := idx (row_Sl (st115.get 0 rfl)) (i := i) hi01093
            obtain ⟨b118, o118, cs118, f118, hp118, hr118, hc118, hm118⟩ := hq_
            have hk118 := hc118
            obtain ⟨rfl, rfl, hok118⟩ := hk118
            refine sx rfl (stp_indexAddr sl_IntS rfl hp118 rfl rfl ?_)
            have hik := h64 _ (List.getElem_mem (l := lineNums d) (n := i) (by omega))
            simp only [I64] at hik
            have hiz := itoaB_size (z := ((lineNums d)[i]'(by omega))) (by omega)
            refine sx rfl (stp_load_rg ld_int rfl rfl hr118 (Below.refl _ _) (i := 0) rfl rfl ?_)
            refine sx rfl (stp_call1 Tryd.func24 rfl rfl ((DecimalS W113 ((lineNums d)[i]'hi01093) (by omega)).mono ?_)); rintro _ W119 ⟨rfl, hk120⟩; refine ⟨_, rfl, ?_⟩
            have st121 := St.call st115 hk120
            refine sx rfl (stp_sadd rfl rfl (by simp only [ByteArray.size_append, bsz, List.size_toArray, List.length_cons, List.length_nil]; omega) ?_)
            refine sx rfl (stp_assign (v := .string (((saidB (deedW d.kind) ((lineNums d).take i)) ++ (⟨#[32]⟩ : ByteArray)) ++ (itoaB ((lineNums d)[i]'hi01093)))) rfl ?_)
            refine sx_nil ?_
            refine sx_region ?_
            refine sx rfl (stp_move (v := I (i : Int)) hs116_6 ?_)
            refine sx rfl (stp_add rfl rfl (by (simp only [I64] at *; omega)) ?_)
            refine sx rfl (stp_assign (v := I ((i : Int) + 1)) rfl ?_)
            refine sx_nil ?_
            exact ⟨_, (lineNums d).length - (i + 1), (by omega), rfl, i + 1, (by omega), rfl, hs116_1, hs116_3, (Eq.trans (show _ = (.string (((saidB (deedW d.kind) ((lineNums d).take i)) ++ (⟨#[32]⟩ : ByteArray)) ++ (itoaB ((lineNums d)[i]'hi01093))) : Value) from rfl) (congrArg Value.string (by rw [saidB_step (by omega)]; apply ByteArray.ext; simp))), rfl, st121⟩
          · skip
            have h117p := of_decide_eq_false h117
            refine wp_exit ?_
            refine wp_seq ?_
            refine wp_seq ?_
            refine sx_region ?_
            refine sx rfl (stp_assign (v := I 0) rfl ?_)
            refine sx_nil ?_
            refine wp_block ?_
            refine sx_loop (fun (m : Nat) (f : Nat → Value) (W : World) => ∃ (k : Nat), k ≤ d.plan.edges.length ∧ m = d.plan.edges.length - k ∧ f 1 = .pointer (some ⟨b1, 0, none⟩) ∧ f 5 = .string (edgesB (saidB (deedW d.kind) (lineNums d)) (d.plan.edges.take k)) ∧ f 7 = I (k : Int) ∧ St w W ([Res.row (α := Int) 3 v107 (lineNums d) [], Res.row (α := ByteArray) 9 (.slice (some ⟨b16, 0, none⟩) 9 9) ([(⟨#[]⟩ : ByteArray), (⟨#[115, 117, 98, 109, 105, 116]⟩ : ByteArray), (⟨#[112, 111, 108, 108]⟩ : ByteArray), (⟨#[100, 111, 110, 101]⟩ : ByteArray), (⟨#[102, 97, 105, 108]⟩ : ByteArray), (⟨#[116, 105, 99, 107]⟩ : ByteArray), (⟨#[99, 97, 110, 99, 101, 108]⟩ : ByteArray), (⟨#[102, 111, 114, 103, 101, 116]⟩ : ByteArray), (⟨#[115, 116, 97, 114, 116]⟩ : ByteArray)]) [], Res.bx b1 [I d.kind, I d.run, I d.plan.prio, I d.plan.most, I d.plan.wait, I d.plan.tasks, v21_0, I d.task, I d.try_, I d.worker, I d.draw] 50])) (d.plan.edges.length - 0) ?_ ?_
            · exact ⟨0, (by omega), rfl, hs116_1, (Eq.trans (show _ = (.string (saidB (deedW d.kind) ((lineNums d).take i)) : Value) from hs116_5) (congrArg Value.string (by rw [show i = (lineNums d).length by omega, List.take_length]; rfl))), rfl, st115⟩
            intro m123 f124 W125 hJ126
            obtain ⟨k, hk, rfl, hs128_1, hs128_5, hs128_7, st127⟩ := hJ126
            have hes := edgesB_size (s := (saidB (deedW d.kind) (lineNums d))) (es := d.plan.edges.take k) (fun e he => hed e (List.mem_of_mem_take he))
            have hws := deedW_size d.kind
            have htl := List.length_take_le k d.plan.edges
            have hss := saidB_size (word := deedW d.kind) (l := (lineNums d)) h64
            refine wp_seq ?_
            refine wp_seq ?_
            refine sx_region ?_
            refine sx rfl (stp_move (v := I (k : Int)) hs128_7 ?_)
            refine sx rfl (stp_fieldAddr fa_Deed_2 hs128_1 ?_)
            refine sx rfl (stp_fieldAddr fa_Plan_4 rfl ?_)
            refine sx rfl (stp_load_bx ld_EdgeS rfl rfl (st127.get 2 rfl) (i := 6) rfl rfl ?_)
            refine sx rfl (stp_len sl_EdgeS rfl h21_0 ?_)
            refine sx rfl (stp_lss rfl rfl ?_)
            refine sx_nil ?_
            refine sx_if rfl (fun h129 => ?_) (fun h129 => ?_)
            · skip
              have h129p := of_decide_eq_true h129
              refine wp_skip ?_
              refine wp_seq ?_
              refine wp_block ?_
              have hi86a04 : k < d.plan.edges.length := (by omega)
              have hq_ := idx h21_0 (i := k) hi86a04
              obtain ⟨b130, o130, cs130, f130, hp130, hr130, hc130, hm130⟩ := hq_
              have hk131 := hc130
              obtain ⟨he131, rfl, hok131⟩ := hk131
              have he131 : _ = [I (d.plan.edges[k]'hi86a04).from_, I (d.plan.edges[k]'hi86a04).to_] := he131
              subst he131
              have hek := hed _ (List.getElem_mem (l := d.plan.edges) (n := k) (by omega))
              simp only [Edge.ok, I64] at hek
              have hz1 := itoaB_size (z := (d.plan.edges[k]'(by omega)).from_) (by omega)
              have hz2 := itoaB_size (z := (d.plan.edges[k]'(by omega)).to_) (by omega)
              refine sx_any [Pl.is (.string (edgesB (saidB (deedW d.kind) (lineNums d)) (d.plan.edges.take k))), Pl.is (.string ((edgesB (saidB (deedW d.kind) (lineNums d)) (d.plan.edges.take k)) ++ (⟨#[32]⟩ : ByteArray))), Pl.is (.pointer (some ⟨b1, 0 + 2, none⟩)), Pl.is (.pointer (some ⟨b1, 0 + 2 + 4, none⟩)), Pl.is (v21_0) (Sl.yl h21_0), Pl.is (I (k : Int)), Pl.is (.pointer (some ⟨b130, o130, none⟩)), Pl.is (.pointer (some ⟨b130, o130 + 0, none⟩)), Pl.is (I (d.plan.edges[k]'hi86a04).from_), Pl.is (.string (itoaB (d.plan.edges[k]'hi86a04).from_)), Pl.is (.string (((edgesB (saidB (deedW d.kind) (lineNums d)) (d.plan.edges.take k)) ++ (⟨#[32]⟩ : ByteArray)) ++ (itoaB (d.plan.edges[k]'hi86a04).from_))), Pl.is (.string ((((edgesB (saidB (deedW d.kind) (lineNums d)) (d.plan.edges.take k)) ++ (⟨#[32]⟩ : ByteArray)) ++ (itoaB (d.plan.edges[k]'hi86a04).from_)) ++ (⟨#[62]⟩ : ByteArray))), Pl.is (.pointer (some ⟨b1, 0 + 2, none⟩)), Pl.is (.pointer (some ⟨b1, 0 + 2 + 4, none⟩)), Pl.is (v21_0) (Sl.yl h21_0), Pl.is (I (k : Int)), Pl.is (.pointer (some ⟨b130, o130, none⟩)), Pl.is (.pointer (some ⟨b130, o130 + 1, none⟩)), Pl.is (I (d.plan.edges[k]'hi86a04).to_), Pl.is (.string (itoaB (d.plan.edges[k]'hi86a04).to_)), Pl.is (.string (((((edgesB (saidB (deedW d.kind) (lineNums d)) (d.plan.edges.take k)) ++ (⟨#[32]⟩ : ByteArray)) ++ (itoaB (d.plan.edges[k]'hi86a04).from_)) ++ (⟨#[62]⟩ : ByteArray)) ++ (itoaB (d.plan.edges[k]'hi86a04).to_))), Pl.is (.string (((((edgesB (saidB (deedW d.kind) (lineNums d)) (d.plan.edges.take k)) ++ (⟨#[32]⟩ : ByteArray)) ++ (itoaB (d.plan.edges[k]'hi86a04).from_)) ++ (⟨#[62]⟩ : ByteArray)) ++ (itoaB (d.plan.edges[k]'hi86a04).to_)))] mix (by rfl) st127 ⟨(fun f W hst hbl hd hf => stp_move (v := .string (edgesB (saidB (deedW d.kind) (lineNums d)) (d.plan.edges.take k))) ((hf 5 rfl).trans hs128_5) ⟨Below.refl _ _, rfl⟩), (fun f W hst hbl hd hf => stp_sadd (hd 0 90 rfl rfl) rfl (by simp only [ByteArray.size_append, bsz, List.size_toArray, List.length_cons, List.length_nil]; omega) ⟨Below.refl _ _, rfl⟩), (fun f W hst hbl hd hf => stp_fieldAddr fa_Deed_2 ((hf 1 rfl).trans hs128_1) ⟨Below.refl _ _, rfl⟩), (fun f W hst hbl hd hf => stp_fieldAddr fa_Plan_4 (hd 2 92 rfl rfl) ⟨Below.refl _ _, rfl⟩), (fun f W hst hbl hd hf => stp_load_bx ld_EdgeS rfl (hd 3 93 rfl rfl) (hst.get 2 rfl) (i := 6) rfl rfl ⟨Below.refl _ _, rfl⟩), (fun f W hst hbl hd hf => stp_move (v := I (k : Int)) ((hf 7 rfl).trans hs128_7) ⟨Below.refl _ _, rfl⟩), (fun f W hst hbl hd hf => stp_indexAddr sl_EdgeS (hd 4 94 rfl rfl) hp130 (hd 5 95 rfl rfl) rfl ⟨Below.refl _ _, rfl⟩), (fun f W hst hbl hd hf => stp_fieldAddr fa_Edge_0 (hd 6 96 rfl rfl) ⟨Below.refl _ _, rfl⟩), (fun f W hst hbl hd hf => stp_load_rg ld_int rfl (hd 7 97 rfl rfl) hr130 hst.below (i := 0) rfl rfl ⟨Below.refl _ _, rfl⟩), (fun f W hst hbl hd hf => stp_call1 Tryd.func24 rfl (hd 8 98 rfl rfl) ((DecimalS W (d.plan.edges[k]'hi86a04).from_ (by omega)).mono (by rintro e W2 ⟨rfl, hk⟩; exact ⟨_, rfl, hk.below, rfl⟩))), (fun f W hst hbl hd hf => stp_sadd (hd 1 91 rfl rfl) (hd 9 99 rfl rfl) (by simp only [ByteArray.size_append, bsz, List.size_toArray, List.length_cons, List.length_nil]; omega) ⟨Below.refl _ _, rfl⟩), (fun f W hst hbl hd hf => stp_sadd (hd 10 100 rfl rfl) rfl (by simp only [ByteArray.size_append, bsz, List.size_toArray, List.length_cons, List.length_nil]; omega) ⟨Below.refl _ _, rfl⟩), (fun f W hst hbl hd hf => stp_fieldAddr fa_Deed_2 ((hf 1 rfl).trans hs128_1) ⟨Below.refl _ _, rfl⟩), (fun f W hst hbl hd hf => stp_fieldAddr fa_Plan_4 (hd 12 102 rfl rfl) ⟨Below.refl _ _, rfl⟩), (fun f W hst hbl hd hf => stp_load_bx ld_EdgeS rfl (hd 13 103 rfl rfl) (hst.get 2 rfl) (i := 6) rfl rfl ⟨Below.refl _ _, rfl⟩), (fun f W hst hbl hd hf => stp_move (v := I (k : Int)) ((hf 7 rfl).trans hs128_7) ⟨Below.refl _ _, rfl⟩), (fun f W hst hbl hd hf => stp_indexAddr sl_EdgeS (hd 14 104 rfl rfl) hp130 (hd 15 105 rfl rfl) rfl ⟨Below.refl _ _, rfl⟩), (fun f W hst hbl hd hf => stp_fieldAddr fa_Edge_1 (hd 16 106 rfl rfl) ⟨Below.refl _ _, rfl⟩), (fun f W hst hbl hd hf => stp_load_rg ld_int rfl (hd 17 107 rfl rfl) hr130 hst.below (i := 1) rfl rfl ⟨Below.refl _ _, rfl⟩), (fun f W hst hbl hd hf => stp_call1 Tryd.func24 rfl (hd 18 108 rfl rfl) ((DecimalS W (d.plan.edges[k]'hi86a04).to_ (by omega)).mono (by rintro e W2 ⟨rfl, hk⟩; exact ⟨_, rfl, hk.below, rfl⟩))), (fun f W hst hbl hd hf => stp_sadd (hd 11 101 rfl rfl) (hd 19 109 rfl rfl) (by simp only [ByteArray.size_append, bsz, List.size_toArray, List.length_cons, List.length_nil]; omega) ⟨Below.refl _ _, rfl⟩), (fun f W hst hbl hd hf => stp_assign (v := .string (((((edgesB (saidB (deedW d.kind) (lineNums d)) (d.plan.edges.take k)) ++ (⟨#[32]⟩ : ByteArray)) ++ (itoaB (d.plan.edges[k]'hi86a04).from_)) ++ (⟨#[62]⟩ : ByteArray)) ++ (itoaB (d.plan.edges[k]'hi86a04).to_))) (hd 20 110 rfl rfl) ⟨Below.refl _ _, rfl⟩), trivial⟩ ?_
              intro f132 W133 st134 hb135 hv136 hf137
              refine sx_region ?_
              refine sx rfl (stp_move (v := I (k : Int)) ((hf137 7 rfl).trans hs128_7) ?_)
              refine sx rfl (stp_add rfl rfl (by (simp only [I64] at *; omega)) ?_)
              refine sx rfl (stp_assign (v := I ((k : Int) + 1)) rfl ?_)
              refine sx_nil ?_
              exact ⟨_, d.plan.edges.length - (k + 1), (by omega), rfl, k + 1, (by omega), rfl, ((hf137 1 rfl).trans hs128_1), (Eq.trans (show _ = (.string (((((edgesB (saidB (deedW d.kind) (lineNums d)) (d.plan.edges.take k)) ++ (⟨#[32]⟩ : ByteArray)) ++ (itoaB (d.plan.edges[k]'hi86a04).from_)) ++ (⟨#[62]⟩ : ByteArray)) ++ (itoaB (d.plan.edges[k]'hi86a04).to_)) : Value) from (hv136 21 5 (by decide) rfl)) (congrArg Value.string (by rw [edgesB_step (by omega), edgeB]; apply ByteArray.ext; simp))), rfl, st134⟩
            · skip
              have h129p := of_decide_eq_false h129
              refine wp_exit ?_
              refine wp_seq ?_
              refine sx_region ?_
              refine sx rfl (stp_move (v := .string (edgesB (saidB (deedW d.kind) (lineNums d)) (d.plan.edges.take k))) hs128_5 ?_)
              refine sx rfl (stp_assign (v := .string (edgesB (saidB (deedW d.kind) (lineNums d)) (d.plan.edges.take k))) rfl ?_)
              refine sx_nil ?_
              refine wp_ret ?_; repeat (first | refine then_ret ?_ | refine blk_ret ?_)
              refine ret1 Tryd.results16 rfl ?_
              obtain rfl : k = d.plan.edges.length := by omega
              exact ⟨(congrArg (fun z => Ending.returned (.string z)) (by unfold deedLine; rw [(bnot_f h10), if_pos rfl, List.take_length])), st127.bare⟩
        · skip
          have h100p := of_decide_eq_false h100
          refine sx_region ?_
          refine sx rfl (stp_eql rfl rfl ?_)
          refine sx rfl (stp_assign (v := .bool (decide (d.kind = 4))) rfl ?_)
          refine sx_nil ?_
          refine sx_if rfl (fun h138 => ?_) (fun h138 => ?_)
          · skip
            have h138p := of_decide_eq_true h138
            refine sx_region ?_
            refine sx rfl (stp_move (v := (.slice (some ⟨b11, 0, none⟩) 0 0)) rfl ?_)
            refine sx rfl (stp_fieldAddr fa_Deed_1 rfl ?_)
            refine sx rfl (stp_load_bx ld_int rfl rfl (st22.get 2 rfl) (i := 1) rfl rfl ?_)
            refine sx rfl (stp_fieldAddr fa_Deed_3 rfl ?_)
            refine sx rfl (stp_load_bx ld_int rfl rfl (st22.get 2 rfl) (i := 7) rfl rfl ?_)
            refine sx rfl (stp_fieldAddr fa_Deed_4 rfl ?_)
            refine sx rfl (stp_load_bx ld_int rfl rfl (st22.get 2 rfl) (i := 8) rfl rfl ?_)
            refine sx rfl (stp_buildSlice (cs := [I d.run, I d.task, I d.try_]) (e := 3) (pcons (v := I d.run) rfl (pcons (v := I d.task) rfl (pcons (v := I d.try_) rfl pnil))) (run_buildSliceN ap_IntS _ rfl (lc_cons rfl (lc_cons rfl (lc_cons rfl lc_nil)))) st22 ?_); intro b139 W140 hb141 st142
            have st144 := st142.f2
            refine sx rfl (stp_append_bx (ys := [d.run, d.task, d.try_]) ap_IntS rfl rfl rfl st144 (Elems.ic (by simp only [I64]; omega) (Elems.ic (by simp only [I64]; omega) (Elems.ic (by simp only [I64]; omega) Elems.i0))) (by simp only [List.length_nil, List.length_cons, maxLen]; omega) (by simp only [List.length_nil, List.length_cons]; omega) ?_); intro v145 W146 st147
            refine sx rfl (stp_assign (v := v145) rfl ?_)
            refine sx_nil ?_
            refine wp_seq ?_
            refine sx_region ?_
            have hlist : [] ++ [d.run, d.task, d.try_] = (lineNums d) := by unfold lineNums deedNums; first | rw [if_pos (by omega)]; rfl | (rw [if_neg (by omega), if_neg (by omega)]; first | (rw [if_pos (by omega)]; rfl) | (rw [if_neg (by omega), if_pos (by omega)]; rfl) | (rw [if_neg (by omega), if_neg (by omega), if_pos (by omega)]; rfl) | (rw [if_neg (by omega), if_neg (by omega), if_neg (by omega)]))
            have st148 := st147; rw [hlist] at st148
            skip
            refine sx rfl (stp_move (v := .string (([(⟨#[]⟩ : ByteArray), (⟨#[115, 117, 98, 109, 105, 116]⟩ : ByteArray), (⟨#[112, 111, 108, 108]⟩ : ByteArray), (⟨#[100, 111, 110, 101]⟩ : ByteArray), (⟨#[102, 97, 105, 108]⟩ : ByteArray), (⟨#[116, 105, 99, 107]⟩ : ByteArray), (⟨#[99, 97, 110, 99, 101, 108]⟩ : ByteArray), (⟨#[102, 111, 114, 103, 101, 116]⟩ : ByteArray), (⟨#[115, 116, 97, 114, 116]⟩ : ByteArray)])[(d.kind).toNat]'hic1759)) rfl ?_)
            refine sx rfl (stp_assign (v := .string (([(⟨#[]⟩ : ByteArray), (⟨#[115, 117, 98, 109, 105, 116]⟩ : ByteArray), (⟨#[112, 111, 108, 108]⟩ : ByteArray), (⟨#[100, 111, 110, 101]⟩ : ByteArray), (⟨#[102, 97, 105, 108]⟩ : ByteArray), (⟨#[116, 105, 99, 107]⟩ : ByteArray), (⟨#[99, 97, 110, 99, 101, 108]⟩ : ByteArray), (⟨#[102, 111, 114, 103, 101, 116]⟩ : ByteArray), (⟨#[115, 116, 97, 114, 116]⟩ : ByteArray)])[(d.kind).toNat]'hic1759)) rfl ?_)
            refine sx_nil ?_
            refine wp_seq ?_
            refine wp_seq ?_
            refine sx_region ?_
            refine sx rfl (stp_assign (v := I 0) rfl ?_)
            refine sx_nil ?_
            refine wp_block ?_
            refine sx_loop (fun (m : Nat) (f : Nat → Value) (W : World) => ∃ (i : Nat), i ≤ (lineNums d).length ∧ m = (lineNums d).length - i ∧ f 1 = .pointer (some ⟨b1, 0, none⟩) ∧ f 3 = v145 ∧ f 5 = .string (saidB (deedW d.kind) ((lineNums d).take i)) ∧ f 6 = I (i : Int) ∧ St w W ([Res.row (α := Int) 3 v145 (lineNums d) [], Res.row (α := ByteArray) 9 (.slice (some ⟨b16, 0, none⟩) 9 9) ([(⟨#[]⟩ : ByteArray), (⟨#[115, 117, 98, 109, 105, 116]⟩ : ByteArray), (⟨#[112, 111, 108, 108]⟩ : ByteArray), (⟨#[100, 111, 110, 101]⟩ : ByteArray), (⟨#[102, 97, 105, 108]⟩ : ByteArray), (⟨#[116, 105, 99, 107]⟩ : ByteArray), (⟨#[99, 97, 110, 99, 101, 108]⟩ : ByteArray), (⟨#[102, 111, 114, 103, 101, 116]⟩ : ByteArray), (⟨#[115, 116, 97, 114, 116]⟩ : ByteArray)]) [], Res.bx b1 [I d.kind, I d.run, I d.plan.prio, I d.plan.most, I d.plan.wait, I d.plan.tasks, v21_0, I d.task, I d.try_, I d.worker, I d.draw] 50])) ((lineNums d).length - 0) ?_ ?_
            · exact ⟨0, (by omega), rfl, rfl, rfl, (Eq.trans (show _ = (.string (([(⟨#[]⟩ : ByteArray), (⟨#[115, 117, 98, 109, 105, 116]⟩ : ByteArray), (⟨#[112, 111, 108, 108]⟩ : ByteArray), (⟨#[100, 111, 110, 101]⟩ : ByteArray), (⟨#[102, 97, 105, 108]⟩ : ByteArray), (⟨#[116, 105, 99, 107]⟩ : ByteArray), (⟨#[99, 97, 110, 99, 101, 108]⟩ : ByteArray), (⟨#[102, 111, 114, 103, 101, 116]⟩ : ByteArray), (⟨#[115, 116, 97, 114, 116]⟩ : ByteArray)])[(d.kind).toNat]'hic1759) : Value) from rfl) (congrArg Value.string (deedW_S (by omega) _))), rfl, st148⟩
            intro m149 f150 W151 hJ152
            obtain ⟨i, hi, rfl, hs154_1, hs154_3, hs154_5, hs154_6, st153⟩ := hJ152
            have hss := saidB_size (word := deedW d.kind) (l := (lineNums d).take i) (fun n hn => h64 n (List.mem_of_mem_take hn))
            have htl := List.length_take_le i (lineNums d)
            have hws := deedW_size d.kind
            refine wp_seq ?_
            refine wp_seq ?_
            refine sx_region ?_
            refine sx rfl (stp_move (v := I (i : Int)) hs154_6 ?_)
            refine sx rfl (stp_move (v := v145) hs154_3 ?_)
            refine sx rfl (stp_len sl_IntS rfl (row_Sl (st153.get 0 rfl)) ?_)
            refine sx rfl (stp_lss rfl rfl ?_)
            refine sx_nil ?_
            refine sx_if rfl (fun h155 => ?_) (fun h155 => ?_)
            · skip
              have h155p := of_decide_eq_true h155
              refine wp_skip ?_
              refine wp_seq ?_
              refine wp_block ?_
              refine sx_region ?_
              refine sx rfl (stp_move (v := .string (saidB (deedW d.kind) ((lineNums d).take i))) hs154_5 ?_)
              refine sx rfl (stp_sadd rfl rfl (by simp only [ByteArray.size_append, bsz, List.size_toArray, List.length_cons, List.length_nil]; omega) ?_)
              refine sx rfl (stp_move (v := v145) hs154_3 ?_)
              refine sx rfl (stp_move (v := I (i : Int)) hs154_6 ?_)
              have hi01093 : i < (lineNums d).length := (by omega)
              have hq_ := idx (row_Sl (st153.get 0 rfl)) (i := i) hi01093
              obtain ⟨b156, o156, cs156, f156, hp156, hr156, hc156, hm156⟩ := hq_
              have hk156 := hc156
              obtain ⟨rfl, rfl, hok156⟩ := hk156
              refine sx rfl (stp_indexAddr sl_IntS rfl hp156 rfl rfl ?_)
              have hik := h64 _ (List.getElem_mem (l := lineNums d) (n := i) (by omega))
              simp only [I64] at hik
              have hiz := itoaB_size (z := ((lineNums d)[i]'(by omega))) (by omega)
              refine sx rfl (stp_load_rg ld_int rfl rfl hr156 (Below.refl _ _) (i := 0) rfl rfl ?_)
              refine sx rfl (stp_call1 Tryd.func24 rfl rfl ((DecimalS W151 ((lineNums d)[i]'hi01093) (by omega)).mono ?_)); rintro _ W157 ⟨rfl, hk158⟩; refine ⟨_, rfl, ?_⟩
              have st159 := St.call st153 hk158
              refine sx rfl (stp_sadd rfl rfl (by simp only [ByteArray.size_append, bsz, List.size_toArray, List.length_cons, List.length_nil]; omega) ?_)
              refine sx rfl (stp_assign (v := .string (((saidB (deedW d.kind) ((lineNums d).take i)) ++ (⟨#[32]⟩ : ByteArray)) ++ (itoaB ((lineNums d)[i]'hi01093)))) rfl ?_)
              refine sx_nil ?_
              refine sx_region ?_
              refine sx rfl (stp_move (v := I (i : Int)) hs154_6 ?_)
              refine sx rfl (stp_add rfl rfl (by (simp only [I64] at *; omega)) ?_)
              refine sx rfl (stp_assign (v := I ((i : Int) + 1)) rfl ?_)
              refine sx_nil ?_
              exact ⟨_, (lineNums d).length - (i + 1), (by omega), rfl, i + 1, (by omega), rfl, hs154_1, hs154_3, (Eq.trans (show _ = (.string (((saidB (deedW d.kind) ((lineNums d).take i)) ++ (⟨#[32]⟩ : ByteArray)) ++ (itoaB ((lineNums d)[i]'hi01093))) : Value) from rfl) (congrArg Value.string (by rw [saidB_step (by omega)]; apply ByteArray.ext; simp))), rfl, st159⟩
            · skip
              have h155p := of_decide_eq_false h155
              refine wp_exit ?_
              refine wp_seq ?_
              refine wp_seq ?_
              refine sx_region ?_
              refine sx rfl (stp_assign (v := I 0) rfl ?_)
              refine sx_nil ?_
              refine wp_block ?_
              refine sx_loop (fun (m : Nat) (f : Nat → Value) (W : World) => ∃ (k : Nat), k ≤ d.plan.edges.length ∧ m = d.plan.edges.length - k ∧ f 1 = .pointer (some ⟨b1, 0, none⟩) ∧ f 5 = .string (edgesB (saidB (deedW d.kind) (lineNums d)) (d.plan.edges.take k)) ∧ f 7 = I (k : Int) ∧ St w W ([Res.row (α := Int) 3 v145 (lineNums d) [], Res.row (α := ByteArray) 9 (.slice (some ⟨b16, 0, none⟩) 9 9) ([(⟨#[]⟩ : ByteArray), (⟨#[115, 117, 98, 109, 105, 116]⟩ : ByteArray), (⟨#[112, 111, 108, 108]⟩ : ByteArray), (⟨#[100, 111, 110, 101]⟩ : ByteArray), (⟨#[102, 97, 105, 108]⟩ : ByteArray), (⟨#[116, 105, 99, 107]⟩ : ByteArray), (⟨#[99, 97, 110, 99, 101, 108]⟩ : ByteArray), (⟨#[102, 111, 114, 103, 101, 116]⟩ : ByteArray), (⟨#[115, 116, 97, 114, 116]⟩ : ByteArray)]) [], Res.bx b1 [I d.kind, I d.run, I d.plan.prio, I d.plan.most, I d.plan.wait, I d.plan.tasks, v21_0, I d.task, I d.try_, I d.worker, I d.draw] 50])) (d.plan.edges.length - 0) ?_ ?_
              · exact ⟨0, (by omega), rfl, hs154_1, (Eq.trans (show _ = (.string (saidB (deedW d.kind) ((lineNums d).take i)) : Value) from hs154_5) (congrArg Value.string (by rw [show i = (lineNums d).length by omega, List.take_length]; rfl))), rfl, st153⟩
              intro m161 f162 W163 hJ164
              obtain ⟨k, hk, rfl, hs166_1, hs166_5, hs166_7, st165⟩ := hJ164
              have hes := edgesB_size (s := (saidB (deedW d.kind) (lineNums d))) (es := d.plan.edges.take k) (fun e he => hed e (List.mem_of_mem_take he))
              have hws := deedW_size d.kind
              have htl := List.length_take_le k d.plan.edges
              have hss := saidB_size (word := deedW d.kind) (l := (lineNums d)) h64
              refine wp_seq ?_
              refine wp_seq ?_
              refine sx_region ?_
              refine sx rfl (stp_move (v := I (k : Int)) hs166_7 ?_)
              refine sx rfl (stp_fieldAddr fa_Deed_2 hs166_1 ?_)
              refine sx rfl (stp_fieldAddr fa_Plan_4 rfl ?_)
              refine sx rfl (stp_load_bx ld_EdgeS rfl rfl (st165.get 2 rfl) (i := 6) rfl rfl ?_)
              refine sx rfl (stp_len sl_EdgeS rfl h21_0 ?_)
              refine sx rfl (stp_lss rfl rfl ?_)
              refine sx_nil ?_
              refine sx_if rfl (fun h167 => ?_) (fun h167 => ?_)
              · skip
                have h167p := of_decide_eq_true h167
                refine wp_skip ?_
                refine wp_seq ?_
                refine wp_block ?_
                have hi86a04 : k < d.plan.edges.length := (by omega)
                have hq_ := idx h21_0 (i := k) hi86a04
                obtain ⟨b168, o168, cs168, f168, hp168, hr168, hc168, hm168⟩ := hq_
                have hk169 := hc168
                obtain ⟨he169, rfl, hok169⟩ := hk169
                have he169 : _ = [I (d.plan.edges[k]'hi86a04).from_, I (d.plan.edges[k]'hi86a04).to_] := he169
                subst he169
                have hek := hed _ (List.getElem_mem (l := d.plan.edges) (n := k) (by omega))
                simp only [Edge.ok, I64] at hek
                have hz1 := itoaB_size (z := (d.plan.edges[k]'(by omega)).from_) (by omega)
                have hz2 := itoaB_size (z := (d.plan.edges[k]'(by omega)).to_) (by omega)
                refine sx_any [Pl.is (.string (edgesB (saidB (deedW d.kind) (lineNums d)) (d.plan.edges.take k))), Pl.is (.string ((edgesB (saidB (deedW d.kind) (lineNums d)) (d.plan.edges.take k)) ++ (⟨#[32]⟩ : ByteArray))), Pl.is (.pointer (some ⟨b1, 0 + 2, none⟩)), Pl.is (.pointer (some ⟨b1, 0 + 2 + 4, none⟩)), Pl.is (v21_0) (Sl.yl h21_0), Pl.is (I (k : Int)), Pl.is (.pointer (some ⟨b168, o168, none⟩)), Pl.is (.pointer (some ⟨b168, o168 + 0, none⟩)), Pl.is (I (d.plan.edges[k]'hi86a04).from_), Pl.is (.string (itoaB (d.plan.edges[k]'hi86a04).from_)), Pl.is (.string (((edgesB (saidB (deedW d.kind) (lineNums d)) (d.plan.edges.take k)) ++ (⟨#[32]⟩ : ByteArray)) ++ (itoaB (d.plan.edges[k]'hi86a04).from_))), Pl.is (.string ((((edgesB (saidB (deedW d.kind) (lineNums d)) (d.plan.edges.take k)) ++ (⟨#[32]⟩ : ByteArray)) ++ (itoaB (d.plan.edges[k]'hi86a04).from_)) ++ (⟨#[62]⟩ : ByteArray))), Pl.is (.pointer (some ⟨b1, 0 + 2, none⟩)), Pl.is (.pointer (some ⟨b1, 0 + 2 + 4, none⟩)), Pl.is (v21_0) (Sl.yl h21_0), Pl.is (I (k : Int)), Pl.is (.pointer (some ⟨b168, o168, none⟩)), Pl.is (.pointer (some ⟨b168, o168 + 1, none⟩)), Pl.is (I (d.plan.edges[k]'hi86a04).to_), Pl.is (.string (itoaB (d.plan.edges[k]'hi86a04).to_)), Pl.is (.string (((((edgesB (saidB (deedW d.kind) (lineNums d)) (d.plan.edges.take k)) ++ (⟨#[32]⟩ : ByteArray)) ++ (itoaB (d.plan.edges[k]'hi86a04).from_)) ++ (⟨#[62]⟩ : ByteArray)) ++ (itoaB (d.plan.edges[k]'hi86a04).to_))), Pl.is (.string (((((edgesB (saidB (deedW d.kind) (lineNums d)) (d.plan.edges.take k)) ++ (⟨#[32]⟩ : ByteArray)) ++ (itoaB (d.plan.edges[k]'hi86a04).from_)) ++ (⟨#[62]⟩ : ByteArray)) ++ (itoaB (d.plan.edges[k]'hi86a04).to_)))] mix (by rfl) st165 ⟨(fun f W hst hbl hd hf => stp_move (v := .string (edgesB (saidB (deedW d.kind) (lineNums d)) (d.plan.edges.take k))) ((hf 5 rfl).trans hs166_5) ⟨Below.refl _ _, rfl⟩), (fun f W hst hbl hd hf => stp_sadd (hd 0 90 rfl rfl) rfl (by simp only [ByteArray.size_append, bsz, List.size_toArray, List.length_cons, List.length_nil]; omega) ⟨Below.refl _ _, rfl⟩), (fun f W hst hbl hd hf => stp_fieldAddr fa_Deed_2 ((hf 1 rfl).trans hs166_1) ⟨Below.refl _ _, rfl⟩), (fun f W hst hbl hd hf => stp_fieldAddr fa_Plan_4 (hd 2 92 rfl rfl) ⟨Below.refl _ _, rfl⟩), (fun f W hst hbl hd hf => stp_load_bx ld_EdgeS rfl (hd 3 93 rfl rfl) (hst.get 2 rfl) (i := 6) rfl rfl ⟨Below.refl _ _, rfl⟩), (fun f W hst hbl hd hf => stp_move (v := I (k : Int)) ((hf 7 rfl).trans hs166_7) ⟨Below.refl _ _, rfl⟩), (fun f W hst hbl hd hf => stp_indexAddr sl_EdgeS (hd 4 94 rfl rfl) hp168 (hd 5 95 rfl rfl) rfl ⟨Below.refl _ _, rfl⟩), (fun f W hst hbl hd hf => stp_fieldAddr fa_Edge_0 (hd 6 96 rfl rfl) ⟨Below.refl _ _, rfl⟩), (fun f W hst hbl hd hf => stp_load_rg ld_int rfl (hd 7 97 rfl rfl) hr168 hst.below (i := 0) rfl rfl ⟨Below.refl _ _, rfl⟩), (fun f W hst hbl hd hf => stp_call1 Tryd.func24 rfl (hd 8 98 rfl rfl) ((DecimalS W (d.plan.edges[k]'hi86a04).from_ (by omega)).mono (by rintro e W2 ⟨rfl, hk⟩; exact ⟨_, rfl, hk.below, rfl⟩))), (fun f W hst hbl hd hf => stp_sadd (hd 1 91 rfl rfl) (hd 9 99 rfl rfl) (by simp only [ByteArray.size_append, bsz, List.size_toArray, List.length_cons, List.length_nil]; omega) ⟨Below.refl _ _, rfl⟩), (fun f W hst hbl hd hf => stp_sadd (hd 10 100 rfl rfl) rfl (by simp only [ByteArray.size_append, bsz, List.size_toArray, List.length_cons, List.length_nil]; omega) ⟨Below.refl _ _, rfl⟩), (fun f W hst hbl hd hf => stp_fieldAddr fa_Deed_2 ((hf 1 rfl).trans hs166_1) ⟨Below.refl _ _, rfl⟩), (fun f W hst hbl hd hf => stp_fieldAddr fa_Plan_4 (hd 12 102 rfl rfl) ⟨Below.refl _ _, rfl⟩), (fun f W hst hbl hd hf => stp_load_bx ld_EdgeS rfl (hd 13 103 rfl rfl) (hst.get 2 rfl) (i := 6) rfl rfl ⟨Below.refl _ _, rfl⟩), (fun f W hst hbl hd hf => stp_move (v := I (k : Int)) ((hf 7 rfl).trans hs166_7) ⟨Below.refl _ _, rfl⟩), (fun f W hst hbl hd hf => stp_indexAddr sl_EdgeS (hd 14 104 rfl rfl) hp168 (hd 15 105 rfl rfl) rfl ⟨Below.refl _ _, rfl⟩), (fun f W hst hbl hd hf => stp_fieldAddr fa_Edge_1 (hd 16 106 rfl rfl) ⟨Below.refl _ _, rfl⟩), (fun f W hst hbl hd hf => stp_load_rg ld_int rfl (hd 17 107 rfl rfl) hr168 hst.below (i := 1) rfl rfl ⟨Below.refl _ _, rfl⟩), (fun f W hst hbl hd hf => stp_call1 Tryd.func24 rfl (hd 18 108 rfl rfl) ((DecimalS W (d.plan.edges[k]'hi86a04).to_ (by omega)).mono (by rintro e W2 ⟨rfl, hk⟩; exact ⟨_, rfl, hk.below, rfl⟩))), (fun f W hst hbl hd hf => stp_sadd (hd 11 101 rfl rfl) (hd 19 109 rfl rfl) (by simp only [ByteArray.size_append, bsz, List.size_toArray, List.length_cons, List.length_nil]; omega) ⟨Below.refl _ _, rfl⟩), (fun f W hst hbl hd hf => stp_assign (v := .string (((((edgesB (saidB (deedW d.kind) (lineNums d)) (d.plan.edges.take k)) ++ (⟨#[32]⟩ : ByteArray)) ++ (itoaB (d.plan.edges[k]'hi86a04).from_)) ++ (⟨#[62]⟩ : ByteArray)) ++ (itoaB (d.plan.edges[k]'hi86a04).to_))) (hd 20 110 rfl rfl) ⟨Below.refl _ _, rfl⟩), trivial⟩ ?_
                intro f170 W171 st172 hb173 hv174 hf175
                refine sx_region ?_
                refine sx rfl (stp_move (v := I (k : Int)) ((hf175 7 rfl).trans hs166_7) ?_)
                refine sx rfl (stp_add rfl rfl (by (simp only [I64] at *; omega)) ?_)
                refine sx rfl (stp_assign (v := I ((k : Int) + 1)) rfl ?_)
                refine sx_nil ?_
                exact ⟨_, d.plan.edges.length - (k + 1), (by omega), rfl, k + 1, (by omega), rfl, ((hf175 1 rfl).trans hs166_1), (Eq.trans (show _ = (.string (((((edgesB (saidB (deedW d.kind) (lineNums d)) (d.plan.edges.take k)) ++ (⟨#[32]⟩ : ByteArray)) ++ (itoaB (d.plan.edges[k]'hi86a04).from_)) ++ (⟨#[62]⟩ : ByteArray)) ++ (itoaB (d.plan.edges[k]'hi86a04).to_)) : Value) from (hv174 21 5 (by decide) rfl)) (congrArg Value.string (by rw [edgesB_step (by omega), edgeB]; apply ByteArray.ext; simp))), rfl, st172⟩
              · skip
                have h167p := of_decide_eq_false h167
                refine wp_exit ?_
                refine wp_seq ?_
                refine sx_region ?_
                refine sx rfl (stp_move (v := .string (edgesB (saidB (deedW d.kind) (lineNums d)) (d.plan.edges.take k))) hs166_5 ?_)
                refine sx rfl (stp_assign (v := .string (edgesB (saidB (deedW d.kind) (lineNums d)) (d.plan.edges.take k))) rfl ?_)
                refine sx_nil ?_
                refine wp_ret ?_; repeat (first | refine then_ret ?_ | refine blk_ret ?_)
                refine ret1 Tryd.results16 rfl ?_
                obtain rfl : k = d.plan.edges.length := by omega
                exact ⟨(congrArg (fun z => Ending.returned (.string z)) (by unfold deedLine; rw [(bnot_f h10), if_pos rfl, List.take_length])), st165.bare⟩
          · skip
            have h138p := of_decide_eq_false h138
            refine wp_seq ?_
            refine wp_seq ?_
            refine sx_region ?_
            refine sx rfl (stp_eql rfl rfl ?_)
            refine sx rfl (stp_assign (v := .bool (decide (d.kind = 6))) rfl ?_)
            refine sx_nil ?_
            refine sx_if rfl (fun h176 => ?_) (fun h176 => ?_)
            · skip
              have h176p := of_decide_eq_true h176
              refine wp_skip ?_
              refine sx_t rfl h176 ?_
              refine sx_region ?_
              refine sx rfl (stp_move (v := (.slice (some ⟨b11, 0, none⟩) 0 0)) rfl ?_)
              refine sx rfl (stp_fieldAddr fa_Deed_1 rfl ?_)
              refine sx rfl (stp_load_bx ld_int rfl rfl (st22.get 2 rfl) (i := 1) rfl rfl ?_)
              refine sx rfl (stp_buildSlice (cs := [I d.run]) (e := 3) (pcons (v := I d.run) rfl pnil) (run_buildSlice1 ap_IntS _ _ rfl rfl (by decide)) st22 ?_); intro b177 W178 hb179 st180
              have st182 := st180.f2
              refine sx rfl (stp_append_bx (ys := [d.run]) ap_IntS rfl rfl rfl st182 (Elems.ic (by simp only [I64]; omega) Elems.i0) (by simp only [List.length_nil, List.length_cons, maxLen]; omega) (by simp only [List.length_nil, List.length_cons]; omega) ?_); intro v183 W184 st185
              refine sx rfl (stp_assign (v := v183) rfl ?_)
              refine sx_nil ?_
              refine wp_seq ?_
              refine sx_region ?_
              have hlist : [] ++ [d.run] = (lineNums d) := by unfold lineNums deedNums; first | rw [if_pos (by omega)]; rfl | (rw [if_neg (by omega), if_neg (by omega)]; first | (rw [if_pos (by omega)]; rfl) | (rw [if_neg (by omega), if_pos (by omega)]; rfl) | (rw [if_neg (by omega), if_neg (by omega), if_pos (by omega)]; rfl) | (rw [if_neg (by omega), if_neg (by omega), if_neg (by omega)]))
              have st186 := st185; rw [hlist] at st186
              skip
              refine sx rfl (stp_move (v := .string (([(⟨#[]⟩ : ByteArray), (⟨#[115, 117, 98, 109, 105, 116]⟩ : ByteArray), (⟨#[112, 111, 108, 108]⟩ : ByteArray), (⟨#[100, 111, 110, 101]⟩ : ByteArray), (⟨#[102, 97, 105, 108]⟩ : ByteArray), (⟨#[116, 105, 99, 107]⟩ : ByteArray), (⟨#[99, 97, 110, 99, 101, 108]⟩ : ByteArray), (⟨#[102, 111, 114, 103, 101, 116]⟩ : ByteArray), (⟨#[115, 116, 97, 114, 116]⟩ : ByteArray)])[(d.kind).toNat]'hic1759)) rfl ?_)
              refine sx rfl (stp_assign (v := .string (([(⟨#[]⟩ : ByteArray), (⟨#[115, 117, 98, 109, 105, 116]⟩ : ByteArray), (⟨#[112, 111, 108, 108]⟩ : ByteArray), (⟨#[100, 111, 110, 101]⟩ : ByteArray), (⟨#[102, 97, 105, 108]⟩ : ByteArray), (⟨#[116, 105, 99, 107]⟩ : ByteArray), (⟨#[99, 97, 110, 99, 101, 108]⟩ : ByteArray), (⟨#[102, 111, 114, 103, 101, 116]⟩ : ByteArray), (⟨#[115, 116, 97, 114, 116]⟩ : ByteArray)])[(d.kind).toNat]'hic1759)) rfl ?_)
              refine sx_nil ?_
              refine wp_seq ?_
              refine wp_seq ?_
              refine sx_region ?_
              refine sx rfl (stp_assign (v := I 0) rfl ?_)
              refine sx_nil ?_
              refine wp_block ?_
              refine sx_loop (fun (m : Nat) (f : Nat → Value) (W : World) => ∃ (i : Nat), i ≤ (lineNums d).length ∧ m = (lineNums d).length - i ∧ f 1 = .pointer (some ⟨b1, 0, none⟩) ∧ f 3 = v183 ∧ f 5 = .string (saidB (deedW d.kind) ((lineNums d).take i)) ∧ f 6 = I (i : Int) ∧ St w W ([Res.row (α := Int) 3 v183 (lineNums d) [], Res.row (α := ByteArray) 9 (.slice (some ⟨b16, 0, none⟩) 9 9) ([(⟨#[]⟩ : ByteArray), (⟨#[115, 117, 98, 109, 105, 116]⟩ : ByteArray), (⟨#[112, 111, 108, 108]⟩ : ByteArray), (⟨#[100, 111, 110, 101]⟩ : ByteArray), (⟨#[102, 97, 105, 108]⟩ : ByteArray), (⟨#[116, 105, 99, 107]⟩ : ByteArray), (⟨#[99, 97, 110, 99, 101, 108]⟩ : ByteArray), (⟨#[102, 111, 114, 103, 101, 116]⟩ : ByteArray), (⟨#[115, 116, 97, 114, 116]⟩ : ByteArray)]) [], Res.bx b1 [I d.kind, I d.run, I d.plan.prio, I d.plan.most, I d.plan.wait, I d.plan.tasks, v21_0, I d.task, I d.try_, I d.worker, I d.draw] 50])) ((lineNums d).length - 0) ?_ ?_
              · exact ⟨0, (by omega), rfl, rfl, rfl, (Eq.trans (show _ = (.string (([(⟨#[]⟩ : ByteArray), (⟨#[115, 117, 98, 109, 105, 116]⟩ : ByteArray), (⟨#[112, 111, 108, 108]⟩ : ByteArray), (⟨#[100, 111, 110, 101]⟩ : ByteArray), (⟨#[102, 97, 105, 108]⟩ : ByteArray), (⟨#[116, 105, 99, 107]⟩ : ByteArray), (⟨#[99, 97, 110, 99, 101, 108]⟩ : ByteArray), (⟨#[102, 111, 114, 103, 101, 116]⟩ : ByteArray), (⟨#[115, 116, 97, 114, 116]⟩ : ByteArray)])[(d.kind).toNat]'hic1759) : Value) from rfl) (congrArg Value.string (deedW_S (by omega) _))), rfl, st186⟩
              intro m187 f188 W189 hJ190
              obtain ⟨i, hi, rfl, hs192_1, hs192_3, hs192_5, hs192_6, st191⟩ := hJ190
              have hss := saidB_size (word := deedW d.kind) (l := (lineNums d).take i) (fun n hn => h64 n (List.mem_of_mem_take hn))
              have htl := List.length_take_le i (lineNums d)
              have hws := deedW_size d.kind
              refine wp_seq ?_
              refine wp_seq ?_
              refine sx_region ?_
              refine sx rfl (stp_move (v := I (i : Int)) hs192_6 ?_)
              refine sx rfl (stp_move (v := v183) hs192_3 ?_)
              refine sx rfl (stp_len sl_IntS rfl (row_Sl (st191.get 0 rfl)) ?_)
              refine sx rfl (stp_lss rfl rfl ?_)
              refine sx_nil ?_
              refine sx_if rfl (fun h193 => ?_) (fun h193 => ?_)
              · skip
                have h193p := of_decide_eq_true h193
                refine wp_skip ?_
                refine wp_seq ?_
                refine wp_block ?_
                refine sx_region ?_
                refine sx rfl (stp_move (v := .string (saidB (deedW d.kind) ((lineNums d).take i))) hs192_5 ?_)
                refine sx rfl (stp_sadd rfl rfl (by simp only [ByteArray.size_append, bsz, List.size_toArray, List.length_cons, List.length_nil]; omega) ?_)
                refine sx rfl (stp_move (v := v183) hs192_3 ?_)
                refine sx rfl (stp_move (v := I (i : Int)) hs192_6 ?_)
                have hi01093 : i < (lineNums d).length := (by omega)
                have hq_ := idx (row_Sl (st191.get 0 rfl)) (i := i) hi01093
                obtain ⟨b194, o194, cs194, f194, hp194, hr194, hc194, hm194⟩ := hq_
                have hk194 := hc194
                obtain ⟨rfl, rfl, hok194⟩ := hk194
                refine sx rfl (stp_indexAddr sl_IntS rfl hp194 rfl rfl ?_)
                have hik := h64 _ (List.getElem_mem (l := lineNums d) (n := i) (by omega))
                simp only [I64] at hik
                have hiz := itoaB_size (z := ((lineNums d)[i]'(by omega))) (by omega)
                refine sx rfl (stp_load_rg ld_int rfl rfl hr194 (Below.refl _ _) (i := 0) rfl rfl ?_)
                refine sx rfl (stp_call1 Tryd.func24 rfl rfl ((DecimalS W189 ((lineNums d)[i]'hi01093) (by omega)).mono ?_)); rintro _ W195 ⟨rfl, hk196⟩; refine ⟨_, rfl, ?_⟩
                have st197 := St.call st191 hk196
                refine sx rfl (stp_sadd rfl rfl (by simp only [ByteArray.size_append, bsz, List.size_toArray, List.length_cons, List.length_nil]; omega) ?_)
                refine sx rfl (stp_assign (v := .string (((saidB (deedW d.kind) ((lineNums d).take i)) ++ (⟨#[32]⟩ : ByteArray)) ++ (itoaB ((lineNums d)[i]'hi01093)))) rfl ?_)
                refine sx_nil ?_
                refine sx_region ?_
                refine sx rfl (stp_move (v := I (i : Int)) hs192_6 ?_)
                refine sx rfl (stp_add rfl rfl (by (simp only [I64] at *; omega)) ?_)
                refine sx rfl (stp_assign (v := I ((i : Int) + 1)) rfl ?_)
                refine sx_nil ?_
                exact ⟨_, (lineNums d).length - (i + 1), (by omega), rfl, i + 1, (by omega), rfl, hs192_1, hs192_3, (Eq.trans (show _ = (.string (((saidB (deedW d.kind) ((lineNums d).take i)) ++ (⟨#[32]⟩ : ByteArray)) ++ (itoaB ((lineNums d)[i]'hi01093))) : Value) from rfl) (congrArg Value.string (by rw [saidB_step (by omega)]; apply ByteArray.ext; simp))), rfl, st197⟩
              · skip
                have h193p := of_decide_eq_false h193
                refine wp_exit ?_
                refine wp_seq ?_
                refine wp_seq ?_
                refine sx_region ?_
                refine sx rfl (stp_assign (v := I 0) rfl ?_)
                refine sx_nil ?_
                refine wp_block ?_
                refine sx_loop (fun (m : Nat) (f : Nat → Value) (W : World) => ∃ (k : Nat), k ≤ d.plan.edges.length ∧ m = d.plan.edges.length - k ∧ f 1 = .pointer (some ⟨b1, 0, none⟩) ∧ f 5 = .string (edgesB (saidB (deedW d.kind) (lineNums d)) (d.plan.edges.take k)) ∧ f 7 = I (k : Int) ∧ St w W ([Res.row (α := Int) 3 v183 (lineNums d) [], Res.row (α := ByteArray) 9 (.slice (some ⟨b16, 0, none⟩) 9 9) ([(⟨#[]⟩ : ByteArray), (⟨#[115, 117, 98, 109, 105, 116]⟩ : ByteArray), (⟨#[112, 111, 108, 108]⟩ : ByteArray), (⟨#[100, 111, 110, 101]⟩ : ByteArray), (⟨#[102, 97, 105, 108]⟩ : ByteArray), (⟨#[116, 105, 99, 107]⟩ : ByteArray), (⟨#[99, 97, 110, 99, 101, 108]⟩ : ByteArray), (⟨#[102, 111, 114, 103, 101, 116]⟩ : ByteArray), (⟨#[115, 116, 97, 114, 116]⟩ : ByteArray)]) [], Res.bx b1 [I d.kind, I d.run, I d.plan.prio, I d.plan.most, I d.plan.wait, I d.plan.tasks, v21_0, I d.task, I d.try_, I d.worker, I d.draw] 50])) (d.plan.edges.length - 0) ?_ ?_
                · exact ⟨0, (by omega), rfl, hs192_1, (Eq.trans (show _ = (.string (saidB (deedW d.kind) ((lineNums d).take i)) : Value) from hs192_5) (congrArg Value.string (by rw [show i = (lineNums d).length by omega, List.take_length]; rfl))), rfl, st191⟩
                intro m199 f200 W201 hJ202
                obtain ⟨k, hk, rfl, hs204_1, hs204_5, hs204_7, st203⟩ := hJ202
                have hes := edgesB_size (s := (saidB (deedW d.kind) (lineNums d))) (es := d.plan.edges.take k) (fun e he => hed e (List.mem_of_mem_take he))
                have hws := deedW_size d.kind
                have htl := List.length_take_le k d.plan.edges
                have hss := saidB_size (word := deedW d.kind) (l := (lineNums d)) h64
                refine wp_seq ?_
                refine wp_seq ?_
                refine sx_region ?_
                refine sx rfl (stp_move (v := I (k : Int)) hs204_7 ?_)
                refine sx rfl (stp_fieldAddr fa_Deed_2 hs204_1 ?_)
                refine sx rfl (stp_fieldAddr fa_Plan_4 rfl ?_)
                refine sx rfl (stp_load_bx ld_EdgeS rfl rfl (st203.get 2 rfl) (i := 6) rfl rfl ?_)
                refine sx rfl (stp_len sl_EdgeS rfl h21_0 ?_)
                refine sx rfl (stp_lss rfl rfl ?_)
                refine sx_nil ?_
                refine sx_if rfl (fun h205 => ?_) (fun h205 => ?_)
                · skip
                  have h205p := of_decide_eq_true h205
                  refine wp_skip ?_
                  refine wp_seq ?_
                  refine wp_block ?_
                  have hi86a04 : k < d.plan.edges.length := (by omega)
                  have hq_ := idx h21_0 (i := k) hi86a04
                  obtain ⟨b206, o206, cs206, f206, hp206, hr206, hc206, hm206⟩ := hq_
                  have hk207 := hc206
                  obtain ⟨he207, rfl, hok207⟩ := hk207
                  have he207 : _ = [I (d.plan.edges[k]'hi86a04).from_, I (d.plan.edges[k]'hi86a04).to_] := he207
                  subst he207
                  have hek := hed _ (List.getElem_mem (l := d.plan.edges) (n := k) (by omega))
                  simp only [Edge.ok, I64] at hek
                  have hz1 := itoaB_size (z := (d.plan.edges[k]'(by omega)).from_) (by omega)
                  have hz2 := itoaB_size (z := (d.plan.edges[k]'(by omega)).to_) (by omega)
                  refine sx_any [Pl.is (.string (edgesB (saidB (deedW d.kind) (lineNums d)) (d.plan.edges.take k))), Pl.is (.string ((edgesB (saidB (deedW d.kind) (lineNums d)) (d.plan.edges.take k)) ++ (⟨#[32]⟩ : ByteArray))), Pl.is (.pointer (some ⟨b1, 0 + 2, none⟩)), Pl.is (.pointer (some ⟨b1, 0 + 2 + 4, none⟩)), Pl.is (v21_0) (Sl.yl h21_0), Pl.is (I (k : Int)), Pl.is (.pointer (some ⟨b206, o206, none⟩)), Pl.is (.pointer (some ⟨b206, o206 + 0, none⟩)), Pl.is (I (d.plan.edges[k]'hi86a04).from_), Pl.is (.string (itoaB (d.plan.edges[k]'hi86a04).from_)), Pl.is (.string (((edgesB (saidB (deedW d.kind) (lineNums d)) (d.plan.edges.take k)) ++ (⟨#[32]⟩ : ByteArray)) ++ (itoaB (d.plan.edges[k]'hi86a04).from_))), Pl.is (.string ((((edgesB (saidB (deedW d.kind) (lineNums d)) (d.plan.edges.take k)) ++ (⟨#[32]⟩ : ByteArray)) ++ (itoaB (d.plan.edges[k]'hi86a04).from_)) ++ (⟨#[62]⟩ : ByteArray))), Pl.is (.pointer (some ⟨b1, 0 + 2, none⟩)), Pl.is (.pointer (some ⟨b1, 0 + 2 + 4, none⟩)), Pl.is (v21_0) (Sl.yl h21_0), Pl.is (I (k : Int)), Pl.is (.pointer (some ⟨b206, o206, none⟩)), Pl.is (.pointer (some ⟨b206, o206 + 1, none⟩)), Pl.is (I (d.plan.edges[k]'hi86a04).to_), Pl.is (.string (itoaB (d.plan.edges[k]'hi86a04).to_)), Pl.is (.string (((((edgesB (saidB (deedW d.kind) (lineNums d)) (d.plan.edges.take k)) ++ (⟨#[32]⟩ : ByteArray)) ++ (itoaB (d.plan.edges[k]'hi86a04).from_)) ++ (⟨#[62]⟩ : ByteArray)) ++ (itoaB (d.plan.edges[k]'hi86a04).to_))), Pl.is (.string (((((edgesB (saidB (deedW d.kind) (lineNums d)) (d.plan.edges.take k)) ++ (⟨#[32]⟩ : ByteArray)) ++ (itoaB (d.plan.edges[k]'hi86a04).from_)) ++ (⟨#[62]⟩ : ByteArray)) ++ (itoaB (d.plan.edges[k]'hi86a04).to_)))] mix (by rfl) st203 ⟨(fun f W hst hbl hd hf => stp_move (v := .string (edgesB (saidB (deedW d.kind) (lineNums d)) (d.plan.edges.take k))) ((hf 5 rfl).trans hs204_5) ⟨Below.refl _ _, rfl⟩), (fun f W hst hbl hd hf => stp_sadd (hd 0 90 rfl rfl) rfl (by simp only [ByteArray.size_append, bsz, List.size_toArray, List.length_cons, List.length_nil]; omega) ⟨Below.refl _ _, rfl⟩), (fun f W hst hbl hd hf => stp_fieldAddr fa_Deed_2 ((hf 1 rfl).trans hs204_1) ⟨Below.refl _ _, rfl⟩), (fun f W hst hbl hd hf => stp_fieldAddr fa_Plan_4 (hd 2 92 rfl rfl) ⟨Below.refl _ _, rfl⟩), (fun f W hst hbl hd hf => stp_load_bx ld_EdgeS rfl (hd 3 93 rfl rfl) (hst.get 2 rfl) (i := 6) rfl rfl ⟨Below.refl _ _, rfl⟩), (fun f W hst hbl hd hf => stp_move (v := I (k : Int)) ((hf 7 rfl).trans hs204_7) ⟨Below.refl _ _, rfl⟩), (fun f W hst hbl hd hf => stp_indexAddr sl_EdgeS (hd 4 94 rfl rfl) hp206 (hd 5 95 rfl rfl) rfl ⟨Below.refl _ _, rfl⟩), (fun f W hst hbl hd hf => stp_fieldAddr fa_Edge_0 (hd 6 96 rfl rfl) ⟨Below.refl _ _, rfl⟩), (fun f W hst hbl hd hf => stp_load_rg ld_int rfl (hd 7 97 rfl rfl) hr206 hst.below (i := 0) rfl rfl ⟨Below.refl _ _, rfl⟩), (fun f W hst hbl hd hf => stp_call1 Tryd.func24 rfl (hd 8 98 rfl rfl) ((DecimalS W (d.plan.edges[k]'hi86a04).from_ (by omega)).mono (by rintro e W2 ⟨rfl, hk⟩; exact ⟨_, rfl, hk.below, rfl⟩))), (fun f W hst hbl hd hf => stp_sadd (hd 1 91 rfl rfl) (hd 9 99 rfl rfl) (by simp only [ByteArray.size_append, bsz, List.size_toArray, List.length_cons, List.length_nil]; omega) ⟨Below.refl _ _, rfl⟩), (fun f W hst hbl hd hf => stp_sadd (hd 10 100 rfl rfl) rfl (by simp only [ByteArray.size_append, bsz, List.size_toArray, List.length_cons, List.length_nil]; omega) ⟨Below.refl _ _, rfl⟩), (fun f W hst hbl hd hf => stp_fieldAddr fa_Deed_2 ((hf 1 rfl).trans hs204_1) ⟨Below.refl _ _, rfl⟩), (fun f W hst hbl hd hf => stp_fieldAddr fa_Plan_4 (hd 12 102 rfl rfl) ⟨Below.refl _ _, rfl⟩), (fun f W hst hbl hd hf => stp_load_bx ld_EdgeS rfl (hd 13 103 rfl rfl) (hst.get 2 rfl) (i := 6) rfl rfl ⟨Below.refl _ _, rfl⟩), (fun f W hst hbl hd hf => stp_move (v := I (k : Int)) ((hf 7 rfl).trans hs204_7) ⟨Below.refl _ _, rfl⟩), (fun f W hst hbl hd hf => stp_indexAddr sl_EdgeS (hd 14 104 rfl rfl) hp206 (hd 15 105 rfl rfl) rfl ⟨Below.refl _ _, rfl⟩), (fun f W hst hbl hd hf => stp_fieldAddr fa_Edge_1 (hd 16 106 rfl rfl) ⟨Below.refl _ _, rfl⟩), (fun f W hst hbl hd hf => stp_load_rg ld_int rfl (hd 17 107 rfl rfl) hr206 hst.below (i := 1) rfl rfl ⟨Below.refl _ _, rfl⟩), (fun f W hst hbl hd hf => stp_call1 Tryd.func24 rfl (hd 18 108 rfl rfl) ((DecimalS W (d.plan.edges[k]'hi86a04).to_ (by omega)).mono (by rintro e W2 ⟨rfl, hk⟩; exact ⟨_, rfl, hk.below, rfl⟩))), (fun f W hst hbl hd hf => stp_sadd (hd 11 101 rfl rfl) (hd 19 109 rfl rfl) (by simp only [ByteArray.size_append, bsz, List.size_toArray, List.length_cons, List.length_nil]; omega) ⟨Below.refl _ _, rfl⟩), (fun f W hst hbl hd hf => stp_assign (v := .string (((((edgesB (saidB (deedW d.kind) (lineNums d)) (d.plan.edges.take k)) ++ (⟨#[32]⟩ : ByteArray)) ++ (itoaB (d.plan.edges[k]'hi86a04).from_)) ++ (⟨#[62]⟩ : ByteArray)) ++ (itoaB (d.plan.edges[k]'hi86a04).to_))) (hd 20 110 rfl rfl) ⟨Below.refl _ _, rfl⟩), trivial⟩ ?_
                  intro f208 W209 st210 hb211 hv212 hf213
                  refine sx_region ?_
                  refine sx rfl (stp_move (v := I (k : Int)) ((hf213 7 rfl).trans hs204_7) ?_)
                  refine sx rfl (stp_add rfl rfl (by (simp only [I64] at *; omega)) ?_)
                  refine sx rfl (stp_assign (v := I ((k : Int) + 1)) rfl ?_)
                  refine sx_nil ?_
                  exact ⟨_, d.plan.edges.length - (k + 1), (by omega), rfl, k + 1, (by omega), rfl, ((hf213 1 rfl).trans hs204_1), (Eq.trans (show _ = (.string (((((edgesB (saidB (deedW d.kind) (lineNums d)) (d.plan.edges.take k)) ++ (⟨#[32]⟩ : ByteArray)) ++ (itoaB (d.plan.edges[k]'hi86a04).from_)) ++ (⟨#[62]⟩ : ByteArray)) ++ (itoaB (d.plan.edges[k]'hi86a04).to_)) : Value) from (hv212 21 5 (by decide) rfl)) (congrArg Value.string (by rw [edgesB_step (by omega), edgeB]; apply ByteArray.ext; simp))), rfl, st210⟩
                · skip
                  have h205p := of_decide_eq_false h205
                  refine wp_exit ?_
                  refine wp_seq ?_
                  refine sx_region ?_
                  refine sx rfl (stp_move (v := .string (edgesB (saidB (deedW d.kind) (lineNums d)) (d.plan.edges.take k))) hs204_5 ?_)
                  refine sx rfl (stp_assign (v := .string (edgesB (saidB (deedW d.kind) (lineNums d)) (d.plan.edges.take k))) rfl ?_)
                  refine sx_nil ?_
                  refine wp_ret ?_; repeat (first | refine then_ret ?_ | refine blk_ret ?_)
                  refine ret1 Tryd.results16 rfl ?_
                  obtain rfl : k = d.plan.edges.length := by omega
                  exact ⟨(congrArg (fun z => Ending.returned (.string z)) (by unfold deedLine; rw [(bnot_f h10), if_pos rfl, List.take_length])), st203.bare⟩
            · skip
              have h176p := of_decide_eq_false h176
              refine sx_region ?_
              refine sx rfl (stp_eql rfl rfl ?_)
              refine sx rfl (stp_assign (v := .bool (decide (d.kind = 7))) rfl ?_)
              refine sx_nil ?_
              refine sx_if rfl (fun h214 => ?_) (fun h214 => ?_)
              · skip
                have h214p := of_decide_eq_true h214
                refine sx_region ?_
                refine sx rfl (stp_move (v := (.slice (some ⟨b11, 0, none⟩) 0 0)) rfl ?_)
                refine sx rfl (stp_fieldAddr fa_Deed_1 rfl ?_)
                refine sx rfl (stp_load_bx ld_int rfl rfl (st22.get 2 rfl) (i := 1) rfl rfl ?_)
                refine sx rfl (stp_buildSlice (cs := [I d.run]) (e := 3) (pcons (v := I d.run) rfl pnil) (run_buildSlice1 ap_IntS _ _ rfl rfl (by decide)) st22 ?_); intro b215 W216 hb217 st218
                have st220 := st218.f2
                refine sx rfl (stp_append_bx (ys := [d.run]) ap_IntS rfl rfl rfl st220 (Elems.ic (by simp only [I64]; omega) Elems.i0) (by simp only [List.length_nil, List.length_cons, maxLen]; omega) (by simp only [List.length_nil, List.length_cons]; omega) ?_); intro v221 W222 st223
                refine sx rfl (stp_assign (v := v221) rfl ?_)
                refine sx_nil ?_
                refine wp_seq ?_
                refine sx_region ?_
                have hlist : [] ++ [d.run] = (lineNums d) := by unfold lineNums deedNums; first | rw [if_pos (by omega)]; rfl | (rw [if_neg (by omega), if_neg (by omega)]; first | (rw [if_pos (by omega)]; rfl) | (rw [if_neg (by omega), if_pos (by omega)]; rfl) | (rw [if_neg (by omega), if_neg (by omega), if_pos (by omega)]; rfl) | (rw [if_neg (by omega), if_neg (by omega), if_neg (by omega)]))
                have st224 := st223; rw [hlist] at st224
                skip
                refine sx rfl (stp_move (v := .string (([(⟨#[]⟩ : ByteArray), (⟨#[115, 117, 98, 109, 105, 116]⟩ : ByteArray), (⟨#[112, 111, 108, 108]⟩ : ByteArray), (⟨#[100, 111, 110, 101]⟩ : ByteArray), (⟨#[102, 97, 105, 108]⟩ : ByteArray), (⟨#[116, 105, 99, 107]⟩ : ByteArray), (⟨#[99, 97, 110, 99, 101, 108]⟩ : ByteArray), (⟨#[102, 111, 114, 103, 101, 116]⟩ : ByteArray), (⟨#[115, 116, 97, 114, 116]⟩ : ByteArray)])[(d.kind).toNat]'hic1759)) rfl ?_)
                refine sx rfl (stp_assign (v := .string (([(⟨#[]⟩ : ByteArray), (⟨#[115, 117, 98, 109, 105, 116]⟩ : ByteArray), (⟨#[112, 111, 108, 108]⟩ : ByteArray), (⟨#[100, 111, 110, 101]⟩ : ByteArray), (⟨#[102, 97, 105, 108]⟩ : ByteArray), (⟨#[116, 105, 99, 107]⟩ : ByteArray), (⟨#[99, 97, 110, 99, 101, 108]⟩ : ByteArray), (⟨#[102, 111, 114, 103, 101, 116]⟩ : ByteArray), (⟨#[115, 116, 97, 114, 116]⟩ : ByteArray)])[(d.kind).toNat]'hic1759)) rfl ?_)
                refine sx_nil ?_
                refine wp_seq ?_
                refine wp_seq ?_
                refine sx_region ?_
                refine sx rfl (stp_assign (v := I 0) rfl ?_)
                refine sx_nil ?_
                refine wp_block ?_
                refine sx_loop (fun (m : Nat) (f : Nat → Value) (W : World) => ∃ (i : Nat), i ≤ (lineNums d).length ∧ m = (lineNums d).length - i ∧ f 1 = .pointer (some ⟨b1, 0, none⟩) ∧ f 3 = v221 ∧ f 5 = .string (saidB (deedW d.kind) ((lineNums d).take i)) ∧ f 6 = I (i : Int) ∧ St w W ([Res.row (α := Int) 3 v221 (lineNums d) [], Res.row (α := ByteArray) 9 (.slice (some ⟨b16, 0, none⟩) 9 9) ([(⟨#[]⟩ : ByteArray), (⟨#[115, 117, 98, 109, 105, 116]⟩ : ByteArray), (⟨#[112, 111, 108, 108]⟩ : ByteArray), (⟨#[100, 111, 110, 101]⟩ : ByteArray), (⟨#[102, 97, 105, 108]⟩ : ByteArray), (⟨#[116, 105, 99, 107]⟩ : ByteArray), (⟨#[99, 97, 110, 99, 101, 108]⟩ : ByteArray), (⟨#[102, 111, 114, 103, 101, 116]⟩ : ByteArray), (⟨#[115, 116, 97, 114, 116]⟩ : ByteArray)]) [], Res.bx b1 [I d.kind, I d.run, I d.plan.prio, I d.plan.most, I d.plan.wait, I d.plan.tasks, v21_0, I d.task, I d.try_, I d.worker, I d.draw] 50])) ((lineNums d).length - 0) ?_ ?_
                · exact ⟨0, (by omega), rfl, rfl, rfl, (Eq.trans (show _ = (.string (([(⟨#[]⟩ : ByteArray), (⟨#[115, 117, 98, 109, 105, 116]⟩ : ByteArray), (⟨#[112, 111, 108, 108]⟩ : ByteArray), (⟨#[100, 111, 110, 101]⟩ : ByteArray), (⟨#[102, 97, 105, 108]⟩ : ByteArray), (⟨#[116, 105, 99, 107]⟩ : ByteArray), (⟨#[99, 97, 110, 99, 101, 108]⟩ : ByteArray), (⟨#[102, 111, 114, 103, 101, 116]⟩ : ByteArray), (⟨#[115, 116, 97, 114, 116]⟩ : ByteArray)])[(d.kind).toNat]'hic1759) : Value) from rfl) (congrArg Value.string (deedW_S (by omega) _))), rfl, st224⟩
                intro m225 f226 W227 hJ228
                obtain ⟨i, hi, rfl, hs230_1, hs230_3, hs230_5, hs230_6, st229⟩ := hJ228
                have hss := saidB_size (word := deedW d.kind) (l := (lineNums d).take i) (fun n hn => h64 n (List.mem_of_mem_take hn))
                have htl := List.length_take_le i (lineNums d)
                have hws := deedW_size d.kind
                refine wp_seq ?_
                refine wp_seq ?_
                refine sx_region ?_
                refine sx rfl (stp_move (v := I (i : Int)) hs230_6 ?_)
                refine sx rfl (stp_move (v := v221) hs230_3 ?_)
                refine sx rfl (stp_len sl_IntS rfl (row_Sl (st229.get 0 rfl)) ?_)
                refine sx rfl (stp_lss rfl rfl ?_)
                refine sx_nil ?_
                refine sx_if rfl (fun h231 => ?_) (fun h231 => ?_)
                · skip
                  have h231p := of_decide_eq_true h231
                  refine wp_skip ?_
                  refine wp_seq ?_
                  refine wp_block ?_
                  refine sx_region ?_
                  refine sx rfl (stp_move (v := .string (saidB (deedW d.kind) ((lineNums d).take i))) hs230_5 ?_)
                  refine sx rfl (stp_sadd rfl rfl (by simp only [ByteArray.size_append, bsz, List.size_toArray, List.length_cons, List.length_nil]; omega) ?_)
                  refine sx rfl (stp_move (v := v221) hs230_3 ?_)
                  refine sx rfl (stp_move (v := I (i : Int)) hs230_6 ?_)
                  have hi01093 : i < (lineNums d).length := (by omega)
                  have hq_ := idx (row_Sl (st229.get 0 rfl)) (i := i) hi01093
                  obtain ⟨b232, o232, cs232, f232, hp232, hr232, hc232, hm232⟩ := hq_
                  have hk232 := hc232
                  obtain ⟨rfl, rfl, hok232⟩ := hk232
                  refine sx rfl (stp_indexAddr sl_IntS rfl hp232 rfl rfl ?_)
                  have hik := h64 _ (List.getElem_mem (l := lineNums d) (n := i) (by omega))
                  simp only [I64] at hik
                  have hiz := itoaB_size (z := ((lineNums d)[i]'(by omega))) (by omega)
                  refine sx rfl (stp_load_rg ld_int rfl rfl hr232 (Below.refl _ _) (i := 0) rfl rfl ?_)
                  refine sx rfl (stp_call1 Tryd.func24 rfl rfl ((DecimalS W227 ((lineNums d)[i]'hi01093) (by omega)).mono ?_)); rintro _ W233 ⟨rfl, hk234⟩; refine ⟨_, rfl, ?_⟩
                  have st235 := St.call st229 hk234
                  refine sx rfl (stp_sadd rfl rfl (by simp only [ByteArray.size_append, bsz, List.size_toArray, List.length_cons, List.length_nil]; omega) ?_)
                  refine sx rfl (stp_assign (v := .string (((saidB (deedW d.kind) ((lineNums d).take i)) ++ (⟨#[32]⟩ : ByteArray)) ++ (itoaB ((lineNums d)[i]'hi01093)))) rfl ?_)
                  refine sx_nil ?_
                  refine sx_region ?_
                  refine sx rfl (stp_move (v := I (i : Int)) hs230_6 ?_)
                  refine sx rfl (stp_add rfl rfl (by (simp only [I64] at *; omega)) ?_)
                  refine sx rfl (stp_assign (v := I ((i : Int) + 1)) rfl ?_)
                  refine sx_nil ?_
                  exact ⟨_, (lineNums d).length - (i + 1), (by omega), rfl, i + 1, (by omega), rfl, hs230_1, hs230_3, (Eq.trans (show _ = (.string (((saidB (deedW d.kind) ((lineNums d).take i)) ++ (⟨#[32]⟩ : ByteArray)) ++ (itoaB ((lineNums d)[i]'hi01093))) : Value) from rfl) (congrArg Value.string (by rw [saidB_step (by omega)]; apply ByteArray.ext; simp))), rfl, st235⟩
                · skip
                  have h231p := of_decide_eq_false h231
                  refine wp_exit ?_
                  refine wp_seq ?_
                  refine wp_seq ?_
                  refine sx_region ?_
                  refine sx rfl (stp_assign (v := I 0) rfl ?_)
                  refine sx_nil ?_
                  refine wp_block ?_
                  refine sx_loop (fun (m : Nat) (f : Nat → Value) (W : World) => ∃ (k : Nat), k ≤ d.plan.edges.length ∧ m = d.plan.edges.length - k ∧ f 1 = .pointer (some ⟨b1, 0, none⟩) ∧ f 5 = .string (edgesB (saidB (deedW d.kind) (lineNums d)) (d.plan.edges.take k)) ∧ f 7 = I (k : Int) ∧ St w W ([Res.row (α := Int) 3 v221 (lineNums d) [], Res.row (α := ByteArray) 9 (.slice (some ⟨b16, 0, none⟩) 9 9) ([(⟨#[]⟩ : ByteArray), (⟨#[115, 117, 98, 109, 105, 116]⟩ : ByteArray), (⟨#[112, 111, 108, 108]⟩ : ByteArray), (⟨#[100, 111, 110, 101]⟩ : ByteArray), (⟨#[102, 97, 105, 108]⟩ : ByteArray), (⟨#[116, 105, 99, 107]⟩ : ByteArray), (⟨#[99, 97, 110, 99, 101, 108]⟩ : ByteArray), (⟨#[102, 111, 114, 103, 101, 116]⟩ : ByteArray), (⟨#[115, 116, 97, 114, 116]⟩ : ByteArray)]) [], Res.bx b1 [I d.kind, I d.run, I d.plan.prio, I d.plan.most, I d.plan.wait, I d.plan.tasks, v21_0, I d.task, I d.try_, I d.worker, I d.draw] 50])) (d.plan.edges.length - 0) ?_ ?_
                  · exact ⟨0, (by omega), rfl, hs230_1, (Eq.trans (show _ = (.string (saidB (deedW d.kind) ((lineNums d).take i)) : Value) from hs230_5) (congrArg Value.string (by rw [show i = (lineNums d).length by omega, List.take_length]; rfl))), rfl, st229⟩
                  intro m237 f238 W239 hJ240
                  obtain ⟨k, hk, rfl, hs242_1, hs242_5, hs242_7, st241⟩ := hJ240
                  have hes := edgesB_size (s := (saidB (deedW d.kind) (lineNums d))) (es := d.plan.edges.take k) (fun e he => hed e (List.mem_of_mem_take he))
                  have hws := deedW_size d.kind
                  have htl := List.length_take_le k d.plan.edges
                  have hss := saidB_size (word := deedW d.kind) (l := (lineNums d)) h64
                  refine wp_seq ?_
                  refine wp_seq ?_
                  refine sx_region ?_
                  refine sx rfl (stp_move (v := I (k : Int)) hs242_7 ?_)
                  refine sx rfl (stp_fieldAddr fa_Deed_2 hs242_1 ?_)
                  refine sx rfl (stp_fieldAddr fa_Plan_4 rfl ?_)
                  refine sx rfl (stp_load_bx ld_EdgeS rfl rfl (st241.get 2 rfl) (i := 6) rfl rfl ?_)
                  refine sx rfl (stp_len sl_EdgeS rfl h21_0 ?_)
                  refine sx rfl (stp_lss rfl rfl ?_)
                  refine sx_nil ?_
                  refine sx_if rfl (fun h243 => ?_) (fun h243 => ?_)
                  · skip
                    have h243p := of_decide_eq_true h243
                    refine wp_skip ?_
                    refine wp_seq ?_
                    refine wp_block ?_
                    have hi86a04 : k < d.plan.edges.length := (by omega)
                    have hq_ := idx h21_0 (i := k) hi86a04
                    obtain ⟨b244, o244, cs244, f244, hp244, hr244, hc244, hm244⟩ := hq_
                    have hk245 := hc244
                    obtain ⟨he245, rfl, hok245⟩ := hk245
                    have he245 : _ = [I (d.plan.edges[k]'hi86a04).from_, I (d.plan.edges[k]'hi86a04).to_] := he245
                    subst he245
                    have hek := hed _ (List.getElem_mem (l := d.plan.edges) (n := k) (by omega))
                    simp only [Edge.ok, I64] at hek
                    have hz1 := itoaB_size (z := (d.plan.edges[k]'(by omega)).from_) (by omega)
                    have hz2 := itoaB_size (z := (d.plan.edges[k]'(by omega)).to_) (by omega)
                    refine sx_any [Pl.is (.string (edgesB (saidB (deedW d.kind) (lineNums d)) (d.plan.edges.take k))), Pl.is (.string ((edgesB (saidB (deedW d.kind) (lineNums d)) (d.plan.edges.take k)) ++ (⟨#[32]⟩ : ByteArray))), Pl.is (.pointer (some ⟨b1, 0 + 2, none⟩)), Pl.is (.pointer (some ⟨b1, 0 + 2 + 4, none⟩)), Pl.is (v21_0) (Sl.yl h21_0), Pl.is (I (k : Int)), Pl.is (.pointer (some ⟨b244, o244, none⟩)), Pl.is (.pointer (some ⟨b244, o244 + 0, none⟩)), Pl.is (I (d.plan.edges[k]'hi86a04).from_), Pl.is (.string (itoaB (d.plan.edges[k]'hi86a04).from_)), Pl.is (.string (((edgesB (saidB (deedW d.kind) (lineNums d)) (d.plan.edges.take k)) ++ (⟨#[32]⟩ : ByteArray)) ++ (itoaB (d.plan.edges[k]'hi86a04).from_))), Pl.is (.string ((((edgesB (saidB (deedW d.kind) (lineNums d)) (d.plan.edges.take k)) ++ (⟨#[32]⟩ : ByteArray)) ++ (itoaB (d.plan.edges[k]'hi86a04).from_)) ++ (⟨#[62]⟩ : ByteArray))), Pl.is (.pointer (some ⟨b1, 0 + 2, none⟩)), Pl.is (.pointer (some ⟨b1, 0 + 2 + 4, none⟩)), Pl.is (v21_0) (Sl.yl h21_0), Pl.is (I (k : Int)), Pl.is (.pointer (some ⟨b244, o244, none⟩)), Pl.is (.pointer (some ⟨b244, o244 + 1, none⟩)), Pl.is (I (d.plan.edges[k]'hi86a04).to_), Pl.is (.string (itoaB (d.plan.edges[k]'hi86a04).to_)), Pl.is (.string (((((edgesB (saidB (deedW d.kind) (lineNums d)) (d.plan.edges.take k)) ++ (⟨#[32]⟩ : ByteArray)) ++ (itoaB (d.plan.edges[k]'hi86a04).from_)) ++ (⟨#[62]⟩ : ByteArray)) ++ (itoaB (d.plan.edges[k]'hi86a04).to_))), Pl.is (.string (((((edgesB (saidB (deedW d.kind) (lineNums d)) (d.plan.edges.take k)) ++ (⟨#[32]⟩ : ByteArray)) ++ (itoaB (d.plan.edges[k]'hi86a04).from_)) ++ (⟨#[62]⟩ : ByteArray)) ++ (itoaB (d.plan.edges[k]'hi86a04).to_)))] mix (by rfl) st241 ⟨(fun f W hst hbl hd hf => stp_move (v := .string (edgesB (saidB (deedW d.kind) (lineNums d)) (d.plan.edges.take k))) ((hf 5 rfl).trans hs242_5) ⟨Below.refl _ _, rfl⟩), (fun f W hst hbl hd hf => stp_sadd (hd 0 90 rfl rfl) rfl (by simp only [ByteArray.size_append, bsz, List.size_toArray, List.length_cons, List.length_nil]; omega) ⟨Below.refl _ _, rfl⟩), (fun f W hst hbl hd hf => stp_fieldAddr fa_Deed_2 ((hf 1 rfl).trans hs242_1) ⟨Below.refl _ _, rfl⟩), (fun f W hst hbl hd hf => stp_fieldAddr fa_Plan_4 (hd 2 92 rfl rfl) ⟨Below.refl _ _, rfl⟩), (fun f W hst hbl hd hf => stp_load_bx ld_EdgeS rfl (hd 3 93 rfl rfl) (hst.get 2 rfl) (i := 6) rfl rfl ⟨Below.refl _ _, rfl⟩), (fun f W hst hbl hd hf => stp_move (v := I (k : Int)) ((hf 7 rfl).trans hs242_7) ⟨Below.refl _ _, rfl⟩), (fun f W hst hbl hd hf => stp_indexAddr sl_EdgeS (hd 4 94 rfl rfl) hp244 (hd 5 95 rfl rfl) rfl ⟨Below.refl _ _, rfl⟩), (fun f W hst hbl hd hf => stp_fieldAddr fa_Edge_0 (hd 6 96 rfl rfl) ⟨Below.refl _ _, rfl⟩), (fun f W hst hbl hd hf => stp_load_rg ld_int rfl (hd 7 97 rfl rfl) hr244 hst.below (i := 0) rfl rfl ⟨Below.refl _ _, rfl⟩), (fun f W hst hbl hd hf => stp_call1 Tryd.func24 rfl (hd 8 98 rfl rfl) ((DecimalS W (d.plan.edges[k]'hi86a04).from_ (by omega)).mono (by rintro e W2 ⟨rfl, hk⟩; exact ⟨_, rfl, hk.below, rfl⟩))), (fun f W hst hbl hd hf => stp_sadd (hd 1 91 rfl rfl) (hd 9 99 rfl rfl) (by simp only [ByteArray.size_append, bsz, List.size_toArray, List.length_cons, List.length_nil]; omega) ⟨Below.refl _ _, rfl⟩), (fun f W hst hbl hd hf => stp_sadd (hd 10 100 rfl rfl) rfl (by simp only [ByteArray.size_append, bsz, List.size_toArray, List.length_cons, List.length_nil]; omega) ⟨Below.refl _ _, rfl⟩), (fun f W hst hbl hd hf => stp_fieldAddr fa_Deed_2 ((hf 1 rfl).trans hs242_1) ⟨Below.refl _ _, rfl⟩), (fun f W hst hbl hd hf => stp_fieldAddr fa_Plan_4 (hd 12 102 rfl rfl) ⟨Below.refl _ _, rfl⟩), (fun f W hst hbl hd hf => stp_load_bx ld_EdgeS rfl (hd 13 103 rfl rfl) (hst.get 2 rfl) (i := 6) rfl rfl ⟨Below.refl _ _, rfl⟩), (fun f W hst hbl hd hf => stp_move (v := I (k : Int)) ((hf 7 rfl).trans hs242_7) ⟨Below.refl _ _, rfl⟩), (fun f W hst hbl hd hf => stp_indexAddr sl_EdgeS (hd 14 104 rfl rfl) hp244 (hd 15 105 rfl rfl) rfl ⟨Below.refl _ _, rfl⟩), (fun f W hst hbl hd hf => stp_fieldAddr fa_Edge_1 (hd 16 106 rfl rfl) ⟨Below.refl _ _, rfl⟩), (fun f W hst hbl hd hf => stp_load_rg ld_int rfl (hd 17 107 rfl rfl) hr244 hst.below (i := 1) rfl rfl ⟨Below.refl _ _, rfl⟩), (fun f W hst hbl hd hf => stp_call1 Tryd.func24 rfl (hd 18 108 rfl rfl) ((DecimalS W (d.plan.edges[k]'hi86a04).to_ (by omega)).mono (by rintro e W2 ⟨rfl, hk⟩; exact ⟨_, rfl, hk.below, rfl⟩))), (fun f W hst hbl hd hf => stp_sadd (hd 11 101 rfl rfl) (hd 19 109 rfl rfl) (by simp only [ByteArray.size_append, bsz, List.size_toArray, List.length_cons, List.length_nil]; omega) ⟨Below.refl _ _, rfl⟩), (fun f W hst hbl hd hf => stp_assign (v := .string (((((edgesB (saidB (deedW d.kind) (lineNums d)) (d.plan.edges.take k)) ++ (⟨#[32]⟩ : ByteArray)) ++ (itoaB (d.plan.edges[k]'hi86a04).from_)) ++ (⟨#[62]⟩ : ByteArray)) ++ (itoaB (d.plan.edges[k]'hi86a04).to_))) (hd 20 110 rfl rfl) ⟨Below.refl _ _, rfl⟩), trivial⟩ ?_
                    intro f246 W247 st248 hb249 hv250 hf251
                    refine sx_region ?_
                    refine sx rfl (stp_move (v := I (k : Int)) ((hf251 7 rfl).trans hs242_7) ?_)
                    refine sx rfl (stp_add rfl rfl (by (simp only [I64] at *; omega)) ?_)
                    refine sx rfl (stp_assign (v := I ((k : Int) + 1)) rfl ?_)
                    refine sx_nil ?_
                    exact ⟨_, d.plan.edges.length - (k + 1), (by omega), rfl, k + 1, (by omega), rfl, ((hf251 1 rfl).trans hs242_1), (Eq.trans (show _ = (.string (((((edgesB (saidB (deedW d.kind) (lineNums d)) (d.plan.edges.take k)) ++ (⟨#[32]⟩ : ByteArray)) ++ (itoaB (d.plan.edges[k]'hi86a04).from_)) ++ (⟨#[62]⟩ : ByteArray)) ++ (itoaB (d.plan.edges[k]'hi86a04).to_)) : Value) from (hv250 21 5 (by decide) rfl)) (congrArg Value.string (by rw [edgesB_step (by omega), edgeB]; apply ByteArray.ext; simp))), rfl, st248⟩
                  · skip
                    have h243p := of_decide_eq_false h243
                    refine wp_exit ?_
                    refine wp_seq ?_
                    refine sx_region ?_
                    refine sx rfl (stp_move (v := .string (edgesB (saidB (deedW d.kind) (lineNums d)) (d.plan.edges.take k))) hs242_5 ?_)
                    refine sx rfl (stp_assign (v := .string (edgesB (saidB (deedW d.kind) (lineNums d)) (d.plan.edges.take k))) rfl ?_)
                    refine sx_nil ?_
                    refine wp_ret ?_; repeat (first | refine then_ret ?_ | refine blk_ret ?_)
                    refine ret1 Tryd.results16 rfl ?_
                    obtain rfl : k = d.plan.edges.length := by omega
                    exact ⟨(congrArg (fun z => Ending.returned (.string z)) (by unfold deedLine; rw [(bnot_f h10), if_pos rfl, List.take_length])), st241.bare⟩
              · skip
                have h214p := of_decide_eq_false h214
                refine wp_skip ?_
                refine wp_seq ?_
                refine sx_region ?_
                have hlist : [] = (lineNums d) := by unfold lineNums deedNums; first | rw [if_pos (by omega)]; rfl | (rw [if_neg (by omega), if_neg (by omega)]; first | (rw [if_pos (by omega)]; rfl) | (rw [if_neg (by omega), if_pos (by omega)]; rfl) | (rw [if_neg (by omega), if_neg (by omega), if_pos (by omega)]; rfl) | (rw [if_neg (by omega), if_neg (by omega), if_neg (by omega)]))
                have st252 := st22.f1
                have st253 := st252; rw [hlist] at st253
                skip
                refine sx rfl (stp_move (v := .string (([(⟨#[]⟩ : ByteArray), (⟨#[115, 117, 98, 109, 105, 116]⟩ : ByteArray), (⟨#[112, 111, 108, 108]⟩ : ByteArray), (⟨#[100, 111, 110, 101]⟩ : ByteArray), (⟨#[102, 97, 105, 108]⟩ : ByteArray), (⟨#[116, 105, 99, 107]⟩ : ByteArray), (⟨#[99, 97, 110, 99, 101, 108]⟩ : ByteArray), (⟨#[102, 111, 114, 103, 101, 116]⟩ : ByteArray), (⟨#[115, 116, 97, 114, 116]⟩ : ByteArray)])[(d.kind).toNat]'hic1759)) rfl ?_)
                refine sx rfl (stp_assign (v := .string (([(⟨#[]⟩ : ByteArray), (⟨#[115, 117, 98, 109, 105, 116]⟩ : ByteArray), (⟨#[112, 111, 108, 108]⟩ : ByteArray), (⟨#[100, 111, 110, 101]⟩ : ByteArray), (⟨#[102, 97, 105, 108]⟩ : ByteArray), (⟨#[116, 105, 99, 107]⟩ : ByteArray), (⟨#[99, 97, 110, 99, 101, 108]⟩ : ByteArray), (⟨#[102, 111, 114, 103, 101, 116]⟩ : ByteArray), (⟨#[115, 116, 97, 114, 116]⟩ : ByteArray)])[(d.kind).toNat]'hic1759)) rfl ?_)
                refine sx_nil ?_
                refine wp_seq ?_
                refine wp_seq ?_
                refine sx_region ?_
                refine sx rfl (stp_assign (v := I 0) rfl ?_)
                refine sx_nil ?_
                refine wp_block ?_
                refine sx_loop (fun (m : Nat) (f : Nat → Value) (W : World) => ∃ (i : Nat), i ≤ (lineNums d).length ∧ m = (lineNums d).length - i ∧ f 1 = .pointer (some ⟨b1, 0, none⟩) ∧ f 3 = (.slice (some ⟨b11, 0, none⟩) 0 0) ∧ f 5 = .string (saidB (deedW d.kind) ((lineNums d).take i)) ∧ f 6 = I (i : Int) ∧ St w W ([Res.row (α := Int) 3 (.slice (some ⟨b11, 0, none⟩) 0 0) (lineNums d) [], Res.row (α := ByteArray) 9 (.slice (some ⟨b16, 0, none⟩) 9 9) ([(⟨#[]⟩ : ByteArray), (⟨#[115, 117, 98, 109, 105, 116]⟩ : ByteArray), (⟨#[112, 111, 108, 108]⟩ : ByteArray), (⟨#[100, 111, 110, 101]⟩ : ByteArray), (⟨#[102, 97, 105, 108]⟩ : ByteArray), (⟨#[116, 105, 99, 107]⟩ : ByteArray), (⟨#[99, 97, 110, 99, 101, 108]⟩ : ByteArray), (⟨#[102, 111, 114, 103, 101, 116]⟩ : ByteArray), (⟨#[115, 116, 97, 114, 116]⟩ : ByteArray)]) [], Res.bx b1 [I d.kind, I d.run, I d.plan.prio, I d.plan.most, I d.plan.wait, I d.plan.tasks, v21_0, I d.task, I d.try_, I d.worker, I d.draw] 50])) ((lineNums d).length - 0) ?_ ?_
                · exact ⟨0, (by omega), rfl, rfl, rfl, (Eq.trans (show _ = (.string (([(⟨#[]⟩ : ByteArray), (⟨#[115, 117, 98, 109, 105, 116]⟩ : ByteArray), (⟨#[112, 111, 108, 108]⟩ : ByteArray), (⟨#[100, 111, 110, 101]⟩ : ByteArray), (⟨#[102, 97, 105, 108]⟩ : ByteArray), (⟨#[116, 105, 99, 107]⟩ : ByteArray), (⟨#[99, 97, 110, 99, 101, 108]⟩ : ByteArray), (⟨#[102, 111, 114, 103, 101, 116]⟩ : ByteArray), (⟨#[115, 116, 97, 114, 116]⟩ : ByteArray)])[(d.kind).toNat]'hic1759) : Value) from rfl) (congrArg Value.string (deedW_S (by omega) _))), rfl, st253⟩
                intro m254 f255 W256 hJ257
                obtain ⟨i, hi, rfl, hs259_1, hs259_3, hs259_5, hs259_6, st258⟩ := hJ257
                have hss := saidB_size (word := deedW d.kind) (l := (lineNums d).take i) (fun n hn => h64 n (List.mem_of_mem_take hn))
                have htl := List.length_take_le i (lineNums d)
                have hws := deedW_size d.kind
                refine wp_seq ?_
                refine wp_seq ?_
                refine sx_region ?_
                refine sx rfl (stp_move (v := I (i : Int)) hs259_6 ?_)
                refine sx rfl (stp_move (v := (.slice (some ⟨b11, 0, none⟩) 0 0)) hs259_3 ?_)
                refine sx rfl (stp_len sl_IntS rfl (row_Sl (st258.get 0 rfl)) ?_)
                refine sx rfl (stp_lss rfl rfl ?_)
                refine sx_nil ?_
                refine sx_if rfl (fun h260 => ?_) (fun h260 => ?_)
                · skip
                  have h260p := of_decide_eq_true h260
                  refine wp_skip ?_
                  refine wp_seq ?_
                  refine wp_block ?_
                  refine sx_region ?_
                  refine sx rfl (stp_move (v := .string (saidB (deedW d.kind) ((lineNums d).take i))) hs259_5 ?_)
                  refine sx rfl (stp_sadd rfl rfl (by simp only [ByteArray.size_append, bsz, List.size_toArray, List.length_cons, List.length_nil]; omega) ?_)
                  refine sx rfl (stp_move (v := (.slice (some ⟨b11, 0, none⟩) 0 0)) hs259_3 ?_)
                  refine sx rfl (stp_move (v := I (i : Int)) hs259_6 ?_)
                  have hi01093 : i < (lineNums d).length := (by omega)
                  have hq_ := idx (row_Sl (st258.get 0 rfl)) (i := i) hi01093
                  obtain ⟨b261, o261, cs261, f261, hp261, hr261, hc261, hm261⟩ := hq_
                  have hk261 := hc261
                  obtain ⟨rfl, rfl, hok261⟩ := hk261
                  refine sx rfl (stp_indexAddr sl_IntS rfl hp261 rfl rfl ?_)
                  have hik := h64 _ (List.getElem_mem (l := lineNums d) (n := i) (by omega))
                  simp only [I64] at hik
                  have hiz := itoaB_size (z := ((lineNums d)[i]'(by omega))) (by omega)
                  refine sx rfl (stp_load_rg ld_int rfl rfl hr261 (Below.refl _ _) (i := 0) rfl rfl ?_)
                  refine sx rfl (stp_call1 Tryd.func24 rfl rfl ((DecimalS W256 ((lineNums d)[i]'hi01093) (by omega)).mono ?_)); rintro _ W262 ⟨rfl, hk263⟩; refine ⟨_, rfl, ?_⟩
                  have st264 := St.call st258 hk263
                  refine sx rfl (stp_sadd rfl rfl (by simp only [ByteArray.size_append, bsz, List.size_toArray, List.length_cons, List.length_nil]; omega) ?_)
                  refine sx rfl (stp_assign (v := .string (((saidB (deedW d.kind) ((lineNums d).take i)) ++ (⟨#[32]⟩ : ByteArray)) ++ (itoaB ((lineNums d)[i]'hi01093)))) rfl ?_)
                  refine sx_nil ?_
                  refine sx_region ?_
                  refine sx rfl (stp_move (v := I (i : Int)) hs259_6 ?_)
                  refine sx rfl (stp_add rfl rfl (by (simp only [I64] at *; omega)) ?_)
                  refine sx rfl (stp_assign (v := I ((i : Int) + 1)) rfl ?_)
                  refine sx_nil ?_
                  exact ⟨_, (lineNums d).length - (i + 1), (by omega), rfl, i + 1, (by omega), rfl, hs259_1, hs259_3, (Eq.trans (show _ = (.string (((saidB (deedW d.kind) ((lineNums d).take i)) ++ (⟨#[32]⟩ : ByteArray)) ++ (itoaB ((lineNums d)[i]'hi01093))) : Value) from rfl) (congrArg Value.string (by rw [saidB_step (by omega)]; apply ByteArray.ext; simp))), rfl, st264⟩
                · skip
                  have h260p := of_decide_eq_false h260
                  refine wp_exit ?_
                  refine wp_seq ?_
                  refine wp_seq ?_
                  refine sx_region ?_
                  refine sx rfl (stp_assign (v := I 0) rfl ?_)
                  refine sx_nil ?_
                  refine wp_block ?_
                  refine sx_loop (fun (m : Nat) (f : Nat → Value) (W : World) => ∃ (k : Nat), k ≤ d.plan.edges.length ∧ m = d.plan.edges.length - k ∧ f 1 = .pointer (some ⟨b1, 0, none⟩) ∧ f 5 = .string (edgesB (saidB (deedW d.kind) (lineNums d)) (d.plan.edges.take k)) ∧ f 7 = I (k : Int) ∧ St w W ([Res.row (α := Int) 3 (.slice (some ⟨b11, 0, none⟩) 0 0) (lineNums d) [], Res.row (α := ByteArray) 9 (.slice (some ⟨b16, 0, none⟩) 9 9) ([(⟨#[]⟩ : ByteArray), (⟨#[115, 117, 98, 109, 105, 116]⟩ : ByteArray), (⟨#[112, 111, 108, 108]⟩ : ByteArray), (⟨#[100, 111, 110, 101]⟩ : ByteArray), (⟨#[102, 97, 105, 108]⟩ : ByteArray), (⟨#[116, 105, 99, 107]⟩ : ByteArray), (⟨#[99, 97, 110, 99, 101, 108]⟩ : ByteArray), (⟨#[102, 111, 114, 103, 101, 116]⟩ : ByteArray), (⟨#[115, 116, 97, 114, 116]⟩ : ByteArray)]) [], Res.bx b1 [I d.kind, I d.run, I d.plan.prio, I d.plan.most, I d.plan.wait, I d.plan.tasks, v21_0, I d.task, I d.try_, I d.worker, I d.draw] 50])) (d.plan.edges.length - 0) ?_ ?_
                  · exact ⟨0, (by omega), rfl, hs259_1, (Eq.trans (show _ = (.string (saidB (deedW d.kind) ((lineNums d).take i)) : Value) from hs259_5) (congrArg Value.string (by rw [show i = (lineNums d).length by omega, List.take_length]; rfl))), rfl, st258⟩
                  intro m266 f267 W268 hJ269
                  obtain ⟨k, hk, rfl, hs271_1, hs271_5, hs271_7, st270⟩ := hJ269
                  have hes := edgesB_size (s := (saidB (deedW d.kind) (lineNums d))) (es := d.plan.edges.take k) (fun e he => hed e (List.mem_of_mem_take he))
                  have hws := deedW_size d.kind
                  have htl := List.length_take_le k d.plan.edges
                  have hss := saidB_size (word := deedW d.kind) (l := (lineNums d)) h64
                  refine wp_seq ?_
                  refine wp_seq ?_
                  refine sx_region ?_
                  refine sx rfl (stp_move (v := I (k : Int)) hs271_7 ?_)
                  refine sx rfl (stp_fieldAddr fa_Deed_2 hs271_1 ?_)
                  refine sx rfl (stp_fieldAddr fa_Plan_4 rfl ?_)
                  refine sx rfl (stp_load_bx ld_EdgeS rfl rfl (st270.get 2 rfl) (i := 6) rfl rfl ?_)
                  refine sx rfl (stp_len sl_EdgeS rfl h21_0 ?_)
                  refine sx rfl (stp_lss rfl rfl ?_)
                  refine sx_nil ?_
                  refine sx_if rfl (fun h272 => ?_) (fun h272 => ?_)
                  · skip
                    have h272p := of_decide_eq_true h272
                    refine wp_skip ?_
                    refine wp_seq ?_
                    refine wp_block ?_
                    have hi86a04 : k < d.plan.edges.length := (by omega)
                    have hq_ := idx h21_0 (i := k) hi86a04
                    obtain ⟨b273, o273, cs273, f273, hp273, hr273, hc273, hm273⟩ := hq_
                    have hk274 := hc273
                    obtain ⟨he274, rfl, hok274⟩ := hk274
                    have he274 : _ = [I (d.plan.edges[k]'hi86a04).from_, I (d.plan.edges[k]'hi86a04).to_] := he274
                    subst he274
                    have hek := hed _ (List.getElem_mem (l := d.plan.edges) (n := k) (by omega))
                    simp only [Edge.ok, I64] at hek
                    have hz1 := itoaB_size (z := (d.plan.edges[k]'(by omega)).from_) (by omega)
                    have hz2 := itoaB_size (z := (d.plan.edges[k]'(by omega)).to_) (by omega)
                    refine sx_any [Pl.is (.string (edgesB (saidB (deedW d.kind) (lineNums d)) (d.plan.edges.take k))), Pl.is (.string ((edgesB (saidB (deedW d.kind) (lineNums d)) (d.plan.edges.take k)) ++ (⟨#[32]⟩ : ByteArray))), Pl.is (.pointer (some ⟨b1, 0 + 2, none⟩)), Pl.is (.pointer (some ⟨b1, 0 + 2 + 4, none⟩)), Pl.is (v21_0) (Sl.yl h21_0), Pl.is (I (k : Int)), Pl.is (.pointer (some ⟨b273, o273, none⟩)), Pl.is (.pointer (some ⟨b273, o273 + 0, none⟩)), Pl.is (I (d.plan.edges[k]'hi86a04).from_), Pl.is (.string (itoaB (d.plan.edges[k]'hi86a04).from_)), Pl.is (.string (((edgesB (saidB (deedW d.kind) (lineNums d)) (d.plan.edges.take k)) ++ (⟨#[32]⟩ : ByteArray)) ++ (itoaB (d.plan.edges[k]'hi86a04).from_))), Pl.is (.string ((((edgesB (saidB (deedW d.kind) (lineNums d)) (d.plan.edges.take k)) ++ (⟨#[32]⟩ : ByteArray)) ++ (itoaB (d.plan.edges[k]'hi86a04).from_)) ++ (⟨#[62]⟩ : ByteArray))), Pl.is (.pointer (some ⟨b1, 0 + 2, none⟩)), Pl.is (.pointer (some ⟨b1, 0 + 2 + 4, none⟩)), Pl.is (v21_0) (Sl.yl h21_0), Pl.is (I (k : Int)), Pl.is (.pointer (some ⟨b273, o273, none⟩)), Pl.is (.pointer (some ⟨b273, o273 + 1, none⟩)), Pl.is (I (d.plan.edges[k]'hi86a04).to_), Pl.is (.string (itoaB (d.plan.edges[k]'hi86a04).to_)), Pl.is (.string (((((edgesB (saidB (deedW d.kind) (lineNums d)) (d.plan.edges.take k)) ++ (⟨#[32]⟩ : ByteArray)) ++ (itoaB (d.plan.edges[k]'hi86a04).from_)) ++ (⟨#[62]⟩ : ByteArray)) ++ (itoaB (d.plan.edges[k]'hi86a04).to_))), Pl.is (.string (((((edgesB (saidB (deedW d.kind) (lineNums d)) (d.plan.edges.take k)) ++ (⟨#[32]⟩ : ByteArray)) ++ (itoaB (d.plan.edges[k]'hi86a04).from_)) ++ (⟨#[62]⟩ : ByteArray)) ++ (itoaB (d.plan.edges[k]'hi86a04).to_)))] mix (by rfl) st270 ⟨(fun f W hst hbl hd hf => stp_move (v := .string (edgesB (saidB (deedW d.kind) (lineNums d)) (d.plan.edges.take k))) ((hf 5 rfl).trans hs271_5) ⟨Below.refl _ _, rfl⟩), (fun f W hst hbl hd hf => stp_sadd (hd 0 90 rfl rfl) rfl (by simp only [ByteArray.size_append, bsz, List.size_toArray, List.length_cons, List.length_nil]; omega) ⟨Below.refl _ _, rfl⟩), (fun f W hst hbl hd hf => stp_fieldAddr fa_Deed_2 ((hf 1 rfl).trans hs271_1) ⟨Below.refl _ _, rfl⟩), (fun f W hst hbl hd hf => stp_fieldAddr fa_Plan_4 (hd 2 92 rfl rfl) ⟨Below.refl _ _, rfl⟩), (fun f W hst hbl hd hf => stp_load_bx ld_EdgeS rfl (hd 3 93 rfl rfl) (hst.get 2 rfl) (i := 6) rfl rfl ⟨Below.refl _ _, rfl⟩), (fun f W hst hbl hd hf => stp_move (v := I (k : Int)) ((hf 7 rfl).trans hs271_7) ⟨Below.refl _ _, rfl⟩), (fun f W hst hbl hd hf => stp_indexAddr sl_EdgeS (hd 4 94 rfl rfl) hp273 (hd 5 95 rfl rfl) rfl ⟨Below.refl _ _, rfl⟩), (fun f W hst hbl hd hf => stp_fieldAddr fa_Edge_0 (hd 6 96 rfl rfl) ⟨Below.refl _ _, rfl⟩), (fun f W hst hbl hd hf => stp_load_rg ld_int rfl (hd 7 97 rfl rfl) hr273 hst.below (i := 0) rfl rfl ⟨Below.refl _ _, rfl⟩), (fun f W hst hbl hd hf => stp_call1 Tryd.func24 rfl (hd 8 98 rfl rfl) ((DecimalS W (d.plan.edges[k]'hi86a04).from_ (by omega)).mono (by rintro e W2 ⟨rfl, hk⟩; exact ⟨_, rfl, hk.below, rfl⟩))), (fun f W hst hbl hd hf => stp_sadd (hd 1 91 rfl rfl) (hd 9 99 rfl rfl) (by simp only [ByteArray.size_append, bsz, List.size_toArray, List.length_cons, List.length_nil]; omega) ⟨Below.refl _ _, rfl⟩), (fun f W hst hbl hd hf => stp_sadd (hd 10 100 rfl rfl) rfl (by simp only [ByteArray.size_append, bsz, List.size_toArray, List.length_cons, List.length_nil]; omega) ⟨Below.refl _ _, rfl⟩), (fun f W hst hbl hd hf => stp_fieldAddr fa_Deed_2 ((hf 1 rfl).trans hs271_1) ⟨Below.refl _ _, rfl⟩), (fun f W hst hbl hd hf => stp_fieldAddr fa_Plan_4 (hd 12 102 rfl rfl) ⟨Below.refl _ _, rfl⟩), (fun f W hst hbl hd hf => stp_load_bx ld_EdgeS rfl (hd 13 103 rfl rfl) (hst.get 2 rfl) (i := 6) rfl rfl ⟨Below.refl _ _, rfl⟩), (fun f W hst hbl hd hf => stp_move (v := I (k : Int)) ((hf 7 rfl).trans hs271_7) ⟨Below.refl _ _, rfl⟩), (fun f W hst hbl hd hf => stp_indexAddr sl_EdgeS (hd 14 104 rfl rfl) hp273 (hd 15 105 rfl rfl) rfl ⟨Below.refl _ _, rfl⟩), (fun f W hst hbl hd hf => stp_fieldAddr fa_Edge_1 (hd 16 106 rfl rfl) ⟨Below.refl _ _, rfl⟩), (fun f W hst hbl hd hf => stp_load_rg ld_int rfl (hd 17 107 rfl rfl) hr273 hst.below (i := 1) rfl rfl ⟨Below.refl _ _, rfl⟩), (fun f W hst hbl hd hf => stp_call1 Tryd.func24 rfl (hd 18 108 rfl rfl) ((DecimalS W (d.plan.edges[k]'hi86a04).to_ (by omega)).mono (by rintro e W2 ⟨rfl, hk⟩; exact ⟨_, rfl, hk.below, rfl⟩))), (fun f W hst hbl hd hf => stp_sadd (hd 11 101 rfl rfl) (hd 19 109 rfl rfl) (by simp only [ByteArray.size_append, bsz, List.size_toArray, List.length_cons, List.length_nil]; omega) ⟨Below.refl _ _, rfl⟩), (fun f W hst hbl hd hf => stp_assign (v := .string (((((edgesB (saidB (deedW d.kind) (lineNums d)) (d.plan.edges.take k)) ++ (⟨#[32]⟩ : ByteArray)) ++ (itoaB (d.plan.edges[k]'hi86a04).from_)) ++ (⟨#[62]⟩ : ByteArray)) ++ (itoaB (d.plan.edges[k]'hi86a04).to_))) (hd 20 110 rfl rfl) ⟨Below.refl _ _, rfl⟩), trivial⟩ ?_
                    intro f275 W276 st277 hb278 hv279 hf280
                    refine sx_region ?_
                    refine sx rfl (stp_move (v := I (k : Int)) ((hf280 7 rfl).trans hs271_7) ?_)
                    refine sx rfl (stp_add rfl rfl (by (simp only [I64] at *; omega)) ?_)
                    refine sx rfl (stp_assign (v := I ((k : Int) + 1)) rfl ?_)
                    refine sx_nil ?_
                    exact ⟨_, d.plan.edges.length - (k + 1), (by omega), rfl, k + 1, (by omega), rfl, ((hf280 1 rfl).trans hs271_1), (Eq.trans (show _ = (.string (((((edgesB (saidB (deedW d.kind) (lineNums d)) (d.plan.edges.take k)) ++ (⟨#[32]⟩ : ByteArray)) ++ (itoaB (d.plan.edges[k]'hi86a04).from_)) ++ (⟨#[62]⟩ : ByteArray)) ++ (itoaB (d.plan.edges[k]'hi86a04).to_)) : Value) from (hv279 21 5 (by decide) rfl)) (congrArg Value.string (by rw [edgesB_step (by omega), edgeB]; apply ByteArray.ext; simp))), rfl, st277⟩
                  · skip
                    have h272p := of_decide_eq_false h272
                    refine wp_exit ?_
                    refine wp_seq ?_
                    refine sx_region ?_
                    refine sx rfl (stp_move (v := .string (edgesB (saidB (deedW d.kind) (lineNums d)) (d.plan.edges.take k))) hs271_5 ?_)
                    refine sx rfl (stp_assign (v := .string (edgesB (saidB (deedW d.kind) (lineNums d)) (d.plan.edges.take k))) rfl ?_)
                    refine sx_nil ?_
                    refine wp_ret ?_; repeat (first | refine then_ret ?_ | refine blk_ret ?_)
                    refine ret1 Tryd.results16 rfl ?_
                    obtain rfl : k = d.plan.edges.length := by omega
                    exact ⟨(congrArg (fun z => Ending.returned (.string z)) (by unfold deedLine; rw [(bnot_f h10), if_pos rfl, List.take_length])), st270.bare⟩
end Go.Proofs.YtchnllpegfbleaaDoor
