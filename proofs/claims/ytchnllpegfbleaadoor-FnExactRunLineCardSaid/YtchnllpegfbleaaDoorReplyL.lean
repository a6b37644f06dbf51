/-
  ReplyLine: of the program and of the reference. (Printed by a program of this project's.)
-/
import Derived.Test.YtchnllpegfbleaaDoorDec
import Derived.Test.YtchnllpegfbleaaDoorSxLit
namespace Go.Proofs.YtchnllpegfbleaaDoor
set_option linter.unusedSimpArgs false
set_option linter.unusedVariables false
set_option maxRecDepth 100000
open Go.RowKit


/-- A word and numbers, with a blank ahead of each. -/
def saidB (word : ByteArray) (l : List Int) : ByteArray := l.foldl (fun w n => w ++ ((⟨#[32]⟩ : ByteArray) ++ itoaB n)) word
theorem saidB_step {word : ByteArray} {l : List Int} {k : Nat} (hk : k < l.length) : saidB word (l.take (k + 1)) = saidB word (l.take k) ++ ((⟨#[32]⟩ : ByteArray) ++ itoaB l[k]) := by
  unfold saidB
  rw [List.take_succ_eq_append_getElem hk, List.foldl_append]; rfl
theorem saidB_size {word : ByteArray} : ∀ {l : List Int}, (∀ n ∈ l, I64 n) → (saidB word l).size ≤ word.size + 22 * l.length := by
  intro l
  induction l generalizing word with
  | nil => intro _; simp [saidB]
  | cons n l ih =>
    intro h
    have h1 := ih (word := word ++ ((⟨#[32]⟩ : ByteArray) ++ itoaB n)) (fun m hm => h m (by simp [hm]))
    have h2 := itoaB_size (z := n) (by have := h n (by simp); simp only [I64] at this; omega)
    have e : saidB word (n :: l) = saidB (word ++ ((⟨#[32]⟩ : ByteArray) ++ itoaB n)) l := rfl
    rw [e]
    simp only [ByteArray.size_append, bsz, List.size_toArray, List.length_cons, List.length_nil] at h1 ⊢
    omega
theorem Elems.ints64 {W : World} : ∀ {xs : List Int} {cells : List Value} {fp : List Nat}, Elems W cells xs fp → ∀ x ∈ xs, I64 x
  | [], _, _, _ => by simp
  | x :: xs, _, _, ⟨cs, rest, f1, f2, h1, h2, h3, h4⟩ => fun y hy => by
    rcases List.mem_cons.1 hy with rfl | hy
    · exact h2.2.2
    · exact Elems.ints64 h3 y hy
theorem Sl_I64 {w : World} {v : Value} {xs : List Int} {fp : List Nat} (h : Sl w v xs fp) : ∀ x ∈ xs, I64 x := by
  obtain ⟨ao, cap, rfl, h1, h2, h3⟩ := h
  rcases h3 with ⟨rfl, _⟩ | ⟨b, off, f, _, rfl, rfl, _, h3⟩
  · simp
  · obtain ⟨cells, he, _⟩ := Elems.of_at off h3
    exact he.ints64
def replyLine (r : Reply) : ByteArray := if r = ⟨0, 0, 0, 0⟩ then ⟨#[111, 107]⟩ else if r.code = 0 then saidB (⟨#[116, 97, 115, 107]⟩ : ByteArray) [r.run, r.task, r.try_] else saidB (⟨#[101, 114, 114, 111, 114]⟩ : ByteArray) [r.code]

set_option maxHeartbeats 2000000 in
theorem SaidI (w : World) (word : ByteArray) {v : Value} {xs : List Int} {fp : List Nat} (h : Sl w v xs fp) (hs : word.size + 22 * xs.length ≤ 100000000) (htab : Lib.TabIs Tryd.prog w "internal/strconv.uint64pow10" .u64 Lib.pow10Tab) :
    Calls Tryd.prog 25 #[.string word, v] w fun e w' => e = .returned (.string (saidB word xs)) ∧ St w w' [] := by
  have h64 := Sl_I64 h
  have hcap := h.len_le
  refine enter2 Tryd.func25 rfl Tryd.ntmps25 (by decide) ?_
  refine wp_seq ?_
  refine sx_region ?_
  refine sx rfl (stp_assign (v := .string (⟨#[]⟩ : ByteArray)) rfl ?_)
  refine sx_nil ?_
  refine wp_seq ?_
  refine wp_seq ?_
  refine sx_region ?_
  refine sx rfl (stp_move (v := v) rfl ?_)
  refine sx rfl (stp_len sl_IntS rfl h ?_)
  refine sx rfl (stp_move (v := I 0) rfl ?_)
  refine sx_nil ?_
  refine wp_block ?_
  refine sx_loop (fun (m : Nat) (f : Nat → Value) (W : World) => ∃ (k : Nat), k ≤ xs.length ∧ m = xs.length - k ∧ f 0 = .string (saidB word (xs.take k)) ∧ f 7 = v ∧ f 8 = I (xs.length : Int) ∧ f 9 = I (k : Int) ∧ St w W ([])) (xs.length - 0) ?_ ?_
  · exact ⟨0, (by omega), rfl, rfl, rfl, rfl, rfl, (St.start w)⟩
  intro m1 f2 W3 hJ4
  obtain ⟨k, hk, rfl, hs6_0, hs6_7, hs6_8, hs6_9, st5⟩ := hJ4
  have hsz := saidB_size (word := word) (l := xs.take k) (fun n hn => h64 n (List.mem_of_mem_take hn))
  have htl := List.length_take_le k xs
  refine wp_seq ?_
  refine sx_region ?_
  refine sx rfl (stp_lss hs6_9 hs6_8 ?_)
  refine sx_nil ?_
  refine wp_seq ?_
  refine sx_if rfl (fun h7 => ?_) (fun h7 => ?_)
  · skip
    have h7p := of_decide_eq_true h7
    refine wp_skip ?_
    refine wp_seq ?_
    refine wp_block ?_
    refine wp_seq ?_
    refine sx_region ?_
    have hi51fab : k < xs.length := (by omega)
    have hq_ := idx h (i := k) hi51fab
    obtain ⟨b8, o8, cs8, f8, hp8, hr8, hc8, hm8⟩ := hq_
    have hk8 := hc8
    obtain ⟨rfl, rfl, hok8⟩ := hk8
    refine sx rfl (stp_indexAddr sl_IntS hs6_7 hp8 hs6_9 rfl ?_)
    refine sx rfl (stp_load_rg ld_int rfl rfl hr8 st5.below (i := 0) rfl rfl ?_)
    refine sx rfl (stp_assign (v := I (xs[k]'hi51fab)) rfl ?_)
    refine sx_nil ?_
    refine sx_region ?_
    refine sx rfl (stp_move (v := .string (saidB word (xs.take k))) hs6_0 ?_)
    refine sx rfl (stp_move (v := I (xs[k]'hi51fab)) rfl ?_)
    have hik := h64 _ (List.getElem_mem (n := k) (by omega))
    simp only [I64] at hik
    refine sx rfl (stp_call1 Tryd.func31 rfl rfl ((DecimalI W3 (xs[k]'hi51fab) (by omega) (TabIs.below htab st5.below)).mono ?_)); rintro _ W9 ⟨rfl, hk10⟩; refine ⟨_, rfl, ?_⟩
    have st11 := St.call st5 hk10
    have hiz := itoaB_size (z := (xs[k]'(by omega))) (by omega)
    refine sx rfl (stp_sadd rfl rfl (by simp only [ByteArray.size_append, bsz, List.size_toArray, List.length_cons, List.length_nil]; omega) ?_)
    refine sx rfl (stp_sadd rfl rfl (by simp only [ByteArray.size_append, bsz, List.size_toArray, List.length_cons, List.length_nil]; omega) ?_)
    refine sx rfl (stp_assign (v := .string ((saidB word (xs.take k)) ++ ((⟨#[32]⟩ : ByteArray) ++ (itoaB (xs[k]'hi51fab))))) rfl ?_)
    refine sx_nil ?_
    refine sx_region ?_
    refine sx rfl (stp_add hs6_9 rfl (by (simp only [I64] at *; omega)) ?_)
    refine sx rfl (stp_move (v := I ((k : Int) + 1)) rfl ?_)
    refine sx_nil ?_
    exact ⟨_, xs.length - (k + 1), (by omega), rfl, k + 1, (by omega), rfl, (Eq.trans (show _ = (.string ((saidB word (xs.take k)) ++ ((⟨#[32]⟩ : ByteArray) ++ (itoaB (xs[k]'hi51fab)))) : Value) from rfl) (congrArg Value.string (saidB_step (by omega)).symm)), hs6_7, hs6_8, rfl, st11⟩
  · skip
    have h7p := of_decide_eq_false h7
    refine wp_exit ?_
    refine wp_seq ?_
    refine sx_region ?_
    refine sx rfl (stp_move (v := .string (saidB word (xs.take k))) hs6_0 ?_)
    refine sx rfl (stp_assign (v := .string (saidB word (xs.take k))) rfl ?_)
    refine sx_nil ?_
    refine wp_ret ?_; repeat (first | refine then_ret ?_ | refine blk_ret ?_)
    refine ret1 Tryd.results25 rfl ?_
    obtain rfl : k = xs.length := by omega
    exact ⟨(congrArg (fun z => Ending.returned (.string z)) (by rw [List.take_length])), st5.bare⟩
set_option maxHeartbeats 2000000 in
theorem ReplyLineI (w : World) {r : Reply} {cs : List Value} {fp : List Nat} (hc : Shape.C w cs r fp) (htab : Lib.TabIs Tryd.prog w "internal/strconv.uint64pow10" .u64 Lib.pow10Tab) :
    Calls Tryd.prog 9 #[.agg cs.toArray] w fun e w' => e = .returned (.string (replyLine r)) ∧ St w w' [] := by
  have hr64 : I64 r.code ∧ I64 r.run ∧ I64 r.task ∧ I64 r.try_ := by have h0 := hc; obtain ⟨_, _, h0⟩ := h0; exact h0
  simp only [I64] at hr64
  have hz0 := itoaB_size (z := r.code) (by omega)
  have hz1 := itoaB_size (z := r.run) (by omega)
  have hz2 := itoaB_size (z := r.task) (by omega)
  have hz3 := itoaB_size (z := r.try_) (by omega)
  refine enter1 Tryd.func9 rfl Tryd.ntmps9 (by decide) ?_
  refine wp_seq ?_
  refine sx_region ?_
  refine sx rfl (stp_box_agg (cs := cs) rfl (St.start w) ?_); intro b1 W2 hb3 st4
  refine sx rfl (stp_assign (v := .string (⟨#[]⟩ : ByteArray)) rfl ?_)
  refine sx_nil ?_
  refine wp_seq ?_
  refine wp_block ?_
  refine wp_seq ?_
  refine sx_region ?_
  refine sx rfl (stp_load_bxa ld_Reply rfl rfl (st4.get 0 rfl) (Shape.len hc) ?_)
  refine sx rfl (stp_build (vs := []) (cs := [I 0, I 0, I 0, I 0]) pnil (by kernel_rfl) ?_)
  have hk6 := hc
  obtain ⟨he6, rfl, hok6⟩ := hk6
  have he6 : _ = [I r.code, I r.run, I r.task, I r.try_] := he6
  subst he6
  refine sx rfl (stp_aeql (se_Reply r (⟨0, 0, 0, 0⟩ : Reply)) eg_Reply rfl rfl ?_)
  refine sx rfl (stp_assign (v := .bool (eqB r (⟨0, 0, 0, 0⟩ : Reply))) rfl ?_)
  refine sx_nil ?_
  refine sx_if rfl (fun h7 => ?_) (fun h7 => ?_)
  · skip
    refine wp_seq ?_
    refine sx_region ?_
    refine sx rfl (stp_assign (v := .string (⟨#[111, 107]⟩ : ByteArray)) rfl ?_)
    refine sx_nil ?_
    refine wp_ret ?_; repeat (first | refine then_ret ?_ | refine blk_ret ?_)
    refine ret1 Tryd.results9 rfl ?_
    exact ⟨(congrArg (fun z => Ending.returned (.string z)) (by unfold replyLine; rw [if_pos (eqB_iff.1 h7)])), st4.bare⟩
  · skip
    refine wp_seq ?_
    refine sx_region ?_
    refine sx rfl (stp_fieldAddr fa_Reply_0 rfl ?_)
    refine sx rfl (stp_load_bx ld_int rfl rfl (st4.get 0 rfl) (i := 0) rfl rfl ?_)
    refine sx rfl (stp_eql rfl rfl ?_)
    refine sx rfl (stp_assign (v := .bool (decide (r.code = 0))) rfl ?_)
    refine sx_nil ?_
    refine sx_if rfl (fun h8 => ?_) (fun h8 => ?_)
    · skip
      have h8p := of_decide_eq_true h8
      refine wp_seq ?_
      refine sx_region ?_
      refine sx rfl (stp_fieldAddr fa_Reply_1 rfl ?_)
      refine sx rfl (stp_load_bx ld_int rfl rfl (st4.get 0 rfl) (i := 1) rfl rfl ?_)
      refine sx rfl (stp_fieldAddr fa_Reply_2 rfl ?_)
      refine sx rfl (stp_load_bx ld_int rfl rfl (st4.get 0 rfl) (i := 2) rfl rfl ?_)
      refine sx rfl (stp_fieldAddr fa_Reply_3 rfl ?_)
      refine sx rfl (stp_load_bx ld_int rfl rfl (st4.get 0 rfl) (i := 3) rfl rfl ?_)
      refine sx rfl (stp_buildSlice (cs := [I r.run, I r.task, I r.try_]) (e := 3) (pcons (v := I r.run) rfl (pcons (v := I r.task) rfl (pcons (v := I r.try_) rfl pnil))) (run_buildSliceN ap_IntS _ rfl (lc_cons rfl (lc_cons rfl (lc_cons rfl lc_nil)))) st4 ?_); intro b9 W10 hb11 st12
      have st14 := St.row_lit (α := Int) (ys := [r.run, r.task, r.try_]) st12 rfl (Nat.le_of_ble_eq_true rfl) (Elems.ic (by simp only [I64]; omega) (Elems.ic (by simp only [I64]; omega) (Elems.ic (by simp only [I64]; omega) Elems.i0)))
      refine sx rfl (stp_call2 Tryd.func25 rfl rfl rfl ((SaidI W10 (⟨#[116, 97, 115, 107]⟩ : ByteArray) (row_Sl (st14.get 0 rfl)) (by simp only [bsz, List.size_toArray, List.length_cons, List.length_nil]; omega) (TabIs.below htab st14.below)).mono ?_)); rintro _ W15 ⟨rfl, hk16⟩; refine ⟨_, rfl, ?_⟩
      have st17 := St.call st14 hk16
      refine sx rfl (stp_assign (v := .string (saidB (⟨#[116, 97, 115, 107]⟩ : ByteArray) ([r.run, r.task, r.try_]))) rfl ?_)
      refine sx_nil ?_
      refine wp_ret ?_; repeat (first | refine then_ret ?_ | refine blk_ret ?_)
      refine ret1 Tryd.results9 rfl ?_
      exact ⟨(congrArg (fun z => Ending.returned (.string z)) (by unfold replyLine; rw [if_neg (fun hz => by rw [eqB_t hz] at h7; cases h7), if_pos h8p])), st17.bare⟩
    · skip
      have h8p := of_decide_eq_false h8
      refine wp_skip ?_
      refine wp_seq ?_
      refine sx_region ?_
      refine sx rfl (stp_fieldAddr fa_Reply_0 rfl ?_)
      refine sx rfl (stp_load_bx ld_int rfl rfl (st4.get 0 rfl) (i := 0) rfl rfl ?_)
      refine sx rfl (stp_buildSlice (cs := [I r.code]) (e := 3) (pcons (v := I r.code) rfl pnil) (run_buildSlice1 ap_IntS _ _ rfl rfl (by decide)) st4 ?_); intro b19 W20 hb21 st22
      have st24 := St.row_lit (α := Int) (ys := [r.code]) st22 rfl (Nat.le_of_ble_eq_true rfl) (Elems.ic (by simp only [I64]; omega) Elems.i0)
      refine sx rfl (stp_call2 Tryd.func25 rfl rfl rfl ((SaidI W20 (⟨#[101, 114, 114, 111, 114]⟩ : ByteArray) (row_Sl (st24.get 0 rfl)) (by simp only [bsz, List.size_toArray, List.length_cons, List.length_nil]; omega) (TabIs.below htab st24.below)).mono ?_)); rintro _ W25 ⟨rfl, hk26⟩; refine ⟨_, rfl, ?_⟩
      have st27 := St.call st24 hk26
      refine sx rfl (stp_assign (v := .string (saidB (⟨#[101, 114, 114, 111, 114]⟩ : ByteArray) [r.code])) rfl ?_)
      refine sx_nil ?_
      refine wp_ret ?_; repeat (first | refine then_ret ?_ | refine blk_ret ?_)
      refine ret1 Tryd.results9 rfl ?_
      exact ⟨(congrArg (fun z => Ending.returned (.string z)) (by unfold replyLine; rw [if_neg (fun hz => by rw [eqB_t hz] at h7; cases h7), if_neg h8p])), st27.bare⟩
set_option maxHeartbeats 2000000 in
theorem ReplyLineS (w : World) {r : Reply} {cs : List Value} {fp : List Nat} (hc : Shape.C w cs r fp) :
    Calls Tryd.prog 7 #[.agg cs.toArray] w fun e w' => e = .returned (.string (replyLine r)) ∧ St w w' [] := by
  have hr64 : I64 r.code ∧ I64 r.run ∧ I64 r.task ∧ I64 r.try_ := by have h0 := hc; obtain ⟨_, _, h0⟩ := h0; exact h0
  simp only [I64] at hr64
  have hz0 := itoaB_size (z := r.code) (by omega)
  have hz1 := itoaB_size (z := r.run) (by omega)
  have hz2 := itoaB_size (z := r.task) (by omega)
  have hz3 := itoaB_size (z := r.try_) (by omega)
  refine enter1 Tryd.func7 rfl Tryd.ntmps7 (by decide) ?_
  refine wp_seq ?_
  refine sx_region ?_
  refine sx rfl (stp_box_agg (cs := cs) rfl (St.start w) ?_); intro b1 W2 hb3 st4
  refine sx rfl (stp_assign (v := .string (⟨#[]⟩ : ByteArray)) rfl ?_)
  refine sx_nil ?_
  refine wp_seq ?_
  refine wp_block ?_
  refine wp_seq ?_
  refine sx_region ?_
  refine sx rfl (stp_load_bxa ld_Reply rfl rfl (st4.get 0 rfl) (Shape.len hc) ?_)
  refine sx rfl (stp_build (vs := []) (cs := [I 0, I 0, I 0, I 0]) pnil (by kernel_rfl) ?_)
  have hk6 := hc
  obtain ⟨he6, rfl, hok6⟩ := hk6
  have he6 : _ = [I r.code, I r.run, I r.task, I r.try_] := he6
  subst he6
  refine sx rfl (stp_aeql (se_Reply r (⟨0, 0, 0, 0⟩ : Reply)) eg_Reply rfl rfl ?_)
  refine sx rfl (stp_assign (v := .bool (eqB r (⟨0, 0, 0, 0⟩ : Reply))) rfl ?_)
  refine sx_nil ?_
  refine sx_if rfl (fun h7 => ?_) (fun h7 => ?_)
  · skip
    refine wp_seq ?_
    refine sx_region ?_
    refine sx rfl (stp_assign (v := .string (⟨#[111, 107]⟩ : ByteArray)) rfl ?_)
    refine sx_nil ?_
    refine wp_ret ?_; repeat (first | refine then_ret ?_ | refine blk_ret ?_)
    refine ret1 Tryd.results7 rfl ?_
    exact ⟨(congrArg (fun z => Ending.returned (.string z)) (by unfold replyLine; rw [if_pos (eqB_iff.1 h7)])), st4.bare⟩
  · skip
    refine wp_seq ?_
    refine sx_region ?_
    refine sx rfl (stp_fieldAddr fa_Reply_0 rfl ?_)
    refine sx rfl (stp_load_bx ld_int rfl rfl (st4.get 0 rfl) (i := 0) rfl rfl ?_)
    refine sx rfl (stp_eql rfl rfl ?_)
    refine sx rfl (stp_assign (v := .bool (decide (r.code = 0))) rfl ?_)
    refine sx_nil ?_
    refine sx_if rfl (fun h8 => ?_) (fun h8 => ?_)
    · skip
      have h8p := of_decide_eq_true h8
      refine wp_seq ?_
      refine sx_any [Pl.is (.pointer (some ⟨b1, 0 + 1, none⟩)), Pl.is (I r.run), Pl.is (.string (itoaB r.run)), Pl.is (.string ((⟨#[116, 97, 115, 107, 32]⟩ : ByteArray) ++ (itoaB r.run))), Pl.is (.string (((⟨#[116, 97, 115, 107, 32]⟩ : ByteArray) ++ (itoaB r.run)) ++ (⟨#[32]⟩ : ByteArray))), Pl.is (.pointer (some ⟨b1, 0 + 2, none⟩)), Pl.is (I r.task), Pl.is (.string (itoaB r.task)), Pl.is (.string ((((⟨#[116, 97, 115, 107, 32]⟩ : ByteArray) ++ (itoaB r.run)) ++ (⟨#[32]⟩ : ByteArray)) ++ (itoaB r.task))), Pl.is (.string (((((⟨#[116, 97, 115, 107, 32]⟩ : ByteArray) ++ (itoaB r.run)) ++ (⟨#[32]⟩ : ByteArray)) ++ (itoaB r.task)) ++ (⟨#[32]⟩ : ByteArray))), Pl.is (.pointer (some ⟨b1, 0 + 3, none⟩)), Pl.is (I r.try_), Pl.is (.string (itoaB r.try_)), Pl.is (.string ((((((⟨#[116, 97, 115, 107, 32]⟩ : ByteArray) ++ (itoaB r.run)) ++ (⟨#[32]⟩ : ByteArray)) ++ (itoaB r.task)) ++ (⟨#[32]⟩ : ByteArray)) ++ (itoaB r.try_))), Pl.is (.string ((((((⟨#[116, 97, 115, 107, 32]⟩ : ByteArray) ++ (itoaB r.run)) ++ (⟨#[32]⟩ : ByteArray)) ++ (itoaB r.task)) ++ (⟨#[32]⟩ : ByteArray)) ++ (itoaB r.try_)))] mix (by rfl) st4 ⟨(fun f W hst hbl hd hf => stp_fieldAddr fa_Reply_1 ((hf 1 rfl).trans (show _ = (.pointer (some ⟨b1, 0, none⟩) : Value) from rfl)) ⟨Below.refl _ _, rfl⟩), (fun f W hst hbl hd hf => stp_load_bx ld_int rfl (hd 0 11 rfl rfl) (hst.get 0 rfl) (i := 1) rfl rfl ⟨Below.refl _ _, rfl⟩), (fun f W hst hbl hd hf => stp_call1 Tryd.func24 rfl (hd 1 12 rfl rfl) ((DecimalS W r.run (by omega)).mono (by rintro e W2 ⟨rfl, hk⟩; exact ⟨_, rfl, hk.below, rfl⟩))), (fun f W hst hbl hd hf => stp_sadd rfl (hd 2 13 rfl rfl) (by simp only [ByteArray.size_append, bsz, List.size_toArray, List.length_cons, List.length_nil]; omega) ⟨Below.refl _ _, rfl⟩), (fun f W hst hbl hd hf => stp_sadd (hd 3 14 rfl rfl) rfl (by simp only [ByteArray.size_append, bsz, List.size_toArray, List.length_cons, List.length_nil]; omega) ⟨Below.refl _ _, rfl⟩), (fun f W hst hbl hd hf => stp_fieldAddr fa_Reply_2 ((hf 1 rfl).trans (show _ = (.pointer (some ⟨b1, 0, none⟩) : Value) from rfl)) ⟨Below.refl _ _, rfl⟩), (fun f W hst hbl hd hf => stp_load_bx ld_int rfl (hd 5 16 rfl rfl) (hst.get 0 rfl) (i := 2) rfl rfl ⟨Below.refl _ _, rfl⟩), (fun f W hst hbl hd hf => stp_call1 Tryd.func24 rfl (hd 6 17 rfl rfl) ((DecimalS W r.task (by omega)).mono (by rintro e W2 ⟨rfl, hk⟩; exact ⟨_, rfl, hk.below, rfl⟩))), (fun f W hst hbl hd hf => stp_sadd (hd 4 15 rfl rfl) (hd 7 18 rfl rfl) (by simp only [ByteArray.size_append, bsz, List.size_toArray, List.length_cons, List.length_nil]; omega) ⟨Below.refl _ _, rfl⟩), (fun f W hst hbl hd hf => stp_sadd (hd 8 19 rfl rfl) rfl (by simp only [ByteArray.size_append, bsz, List.size_toArray, List.length_cons, List.length_nil]; omega) ⟨Below.refl _ _, rfl⟩), (fun f W hst hbl hd hf => stp_fieldAddr fa_Reply_3 ((hf 1 rfl).trans (show _ = (.pointer (some ⟨b1, 0, none⟩) : Value) from rfl)) ⟨Below.refl _ _, rfl⟩), (fun f W hst hbl hd hf => stp_load_bx ld_int rfl (hd 10 21 rfl rfl) (hst.get 0 rfl) (i := 3) rfl rfl ⟨Below.refl _ _, rfl⟩), (fun f W hst hbl hd hf => stp_call1 Tryd.func24 rfl (hd 11 22 rfl rfl) ((DecimalS W r.try_ (by omega)).mono (by rintro e W2 ⟨rfl, hk⟩; exact ⟨_, rfl, hk.below, rfl⟩))), (fun f W hst hbl hd hf => stp_sadd (hd 9 20 rfl rfl) (hd 12 23 rfl rfl) (by simp only [ByteArray.size_append, bsz, List.size_toArray, List.length_cons, List.length_nil]; omega) ⟨Below.refl _ _, rfl⟩), (fun f W hst hbl hd hf => stp_assign (v := .string ((((((⟨#[116, 97, 115, 107, 32]⟩ : ByteArray) ++ (itoaB r.run)) ++ (⟨#[32]⟩ : ByteArray)) ++ (itoaB r.task)) ++ (⟨#[32]⟩ : ByteArray)) ++ (itoaB r.try_))) (hd 13 24 rfl rfl) ⟨Below.refl _ _, rfl⟩), trivial⟩ ?_
      intro f9 W10 st11 hb12 hv13 hf14
      refine wp_ret ?_; repeat (first | refine then_ret ?_ | refine blk_ret ?_)
      refine ret1 Tryd.results7 (hv13 14 2 (by decide) rfl) ?_
      exact ⟨(congrArg (fun z => Ending.returned (.string z)) (by unfold replyLine; rw [if_neg (fun hz => by rw [eqB_t hz] at h7; cases h7), if_pos h8p]; apply ByteArray.ext; apply Array.ext'; simp [saidB])), st11.bare⟩
    · skip
      have h8p := of_decide_eq_false h8
      refine wp_skip ?_
      refine wp_seq ?_
      refine sx_region ?_
      refine sx rfl (stp_fieldAddr fa_Reply_0 rfl ?_)
      refine sx rfl (stp_load_bx ld_int rfl rfl (st4.get 0 rfl) (i := 0) rfl rfl ?_)
      refine sx rfl (stp_call1 Tryd.func24 rfl rfl ((DecimalS W2 r.code (by omega)).mono ?_)); rintro _ W15 ⟨rfl, hk16⟩; refine ⟨_, rfl, ?_⟩
      have st17 := St.call st4 hk16
      refine sx rfl (stp_sadd rfl rfl (by simp only [ByteArray.size_append, bsz, List.size_toArray, List.length_cons, List.length_nil]; omega) ?_)
      refine sx rfl (stp_assign (v := .string ((⟨#[101, 114, 114, 111, 114, 32]⟩ : ByteArray) ++ (itoaB r.code))) rfl ?_)
      refine sx_nil ?_
      refine wp_ret ?_; repeat (first | refine then_ret ?_ | refine blk_ret ?_)
      refine ret1 Tryd.results7 rfl ?_
      exact ⟨(congrArg (fun z => Ending.returned (.string z)) (by unfold replyLine; rw [if_neg (fun hz => by rw [eqB_t hz] at h7; cases h7), if_neg h8p]; apply ByteArray.ext; apply Array.ext'; simp [saidB])), st17.bare⟩
end Go.Proofs.YtchnllpegfbleaaDoor
