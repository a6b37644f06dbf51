/-
  RunLine: of the program and of the reference. (Printed by a program of this project's.)
-/
import Derived.Test.YtchnllpegfbleaaDoorReplyL
import Derived.Test.YtchnllpegfbleaaDoorMRow
namespace Go.Proofs.YtchnllpegfbleaaDoor
set_option linter.unusedSimpArgs false
set_option linter.unusedVariables false
set_option maxRecDepth 100000
open Go.RowKit


def wordAtB (ws : List ByteArray) (n : Int) : ByteArray := if 1 ≤ n ∧ n ≤ (ws.length : Int) then ws.getD (n - 1).toNat ⟨#[]⟩ else ⟨#[63]⟩
theorem wordAtB_in {ws : List ByteArray} {n : Int} (h : 1 ≤ n ∧ n ≤ (ws.length : Int)) (hl : (n - 1).toNat < ws.length) : ws[(n - 1).toNat] = wordAtB ws n := by
  unfold wordAtB
  rw [if_pos h, List.getD_eq_getElem?_getD, List.getElem?_eq_getElem hl]; rfl
theorem wordAtB_out {ws : List ByteArray} {n : Int} (h : ¬ (1 ≤ n ∧ n ≤ (ws.length : Int))) : wordAtB ws n = ⟨#[63]⟩ := by
  unfold wordAtB; rw [if_neg h]
theorem wordAtB_size {ws : List ByteArray} {m : Nat} (h1 : 1 ≤ m) (hs : ∀ x ∈ ws, x.size ≤ m) (n : Int) : (wordAtB ws n).size ≤ m := by
  unfold wordAtB
  split
  · rw [List.getD_eq_getElem?_getD]
    cases hq : ws[(n - 1).toNat]? with
    | none => simp [bsz]
    | some x => exact hs x (List.mem_of_getElem? hq)
  · simpa [bsz] using h1
theorem stateW_size (st : Int) : (wordAtB [(⟨#[108, 105, 118, 101]⟩ : ByteArray), (⟨#[100, 111, 110, 101]⟩ : ByteArray), (⟨#[102, 97, 105, 108, 101, 100]⟩ : ByteArray), (⟨#[108, 101, 102, 116]⟩ : ByteArray)] st).size ≤ 6 := wordAtB_size (by omega) (by intro x hx; simp only [List.mem_cons, List.not_mem_nil, or_false] at hx; rcases hx with rfl | rfl | rfl | rfl <;> decide) st
theorem taskW_size (st : Int) : (wordAtB [(⟨#[119]⟩ : ByteArray), (⟨#[114]⟩ : ByteArray), (⟨#[120]⟩ : ByteArray), (⟨#[100]⟩ : ByteArray), (⟨#[102]⟩ : ByteArray), (⟨#[108]⟩ : ByteArray)] st).size ≤ 1 := wordAtB_size (by omega) (by intro x hx; simp only [List.mem_cons, List.not_mem_nil, or_false] at hx; rcases hx with rfl | rfl | rfl | rfl | rfl | rfl <;> decide) st
theorem stateW_S {st : Int} (h : 1 ≤ st ∧ st ≤ 4) (hl : st.toNat < ([(⟨#[]⟩ : ByteArray), (⟨#[108, 105, 118, 101]⟩ : ByteArray), (⟨#[100, 111, 110, 101]⟩ : ByteArray), (⟨#[102, 97, 105, 108, 101, 100]⟩ : ByteArray), (⟨#[108, 101, 102, 116]⟩ : ByteArray)] : List ByteArray).length) : ([(⟨#[]⟩ : ByteArray), (⟨#[108, 105, 118, 101]⟩ : ByteArray), (⟨#[100, 111, 110, 101]⟩ : ByteArray), (⟨#[102, 97, 105, 108, 101, 100]⟩ : ByteArray), (⟨#[108, 101, 102, 116]⟩ : ByteArray)] : List ByteArray)[st.toNat] = wordAtB [(⟨#[108, 105, 118, 101]⟩ : ByteArray), (⟨#[100, 111, 110, 101]⟩ : ByteArray), (⟨#[102, 97, 105, 108, 101, 100]⟩ : ByteArray), (⟨#[108, 101, 102, 116]⟩ : ByteArray)] st := by
  have hk : st = 1 ∨ st = 2 ∨ st = 3 ∨ st = 4 := by omega
  rcases hk with rfl | rfl | rfl | rfl <;> rfl
/-- The letter of a task. -/
def taskL (st : Int) : UInt8 := if 1 ≤ st ∧ st ≤ 6 then [(119 : UInt8), 114, 120, 100, 102, 108].getD (st - 1).toNat 63 else 63
theorem taskW_eq (st : Int) : wordAtB [(⟨#[119]⟩ : ByteArray), (⟨#[114]⟩ : ByteArray), (⟨#[120]⟩ : ByteArray), (⟨#[100]⟩ : ByteArray), (⟨#[102]⟩ : ByteArray), (⟨#[108]⟩ : ByteArray)] st = ⟨#[taskL st]⟩ := by
  by_cases h : 1 ≤ st ∧ st ≤ 6
  · have hk : st = 1 ∨ st = 2 ∨ st = 3 ∨ st = 4 ∨ st = 5 ∨ st = 6 := by omega
    rcases hk with rfl | rfl | rfl | rfl | rfl | rfl <;> rfl
  · rw [wordAtB_out (by simpa using h), taskL, if_neg h]
theorem letter_at {st : Int} (h : 1 ≤ st ∧ st ≤ 6) (hl : (st - 1).toNat < (⟨#[119, 114, 120, 100, 102, 108]⟩ : ByteArray).size) : (⟨#[119, 114, 120, 100, 102, 108]⟩ : ByteArray)[(st - 1).toNat] = taskL st := by
  have hk : st = 1 ∨ st = 2 ∨ st = 3 ∨ st = 4 ∨ st = 5 ∨ st = 6 := by omega
  rcases hk with rfl | rfl | rfl | rfl | rfl | rfl <;> rfl
theorem letter_out {st : Int} (h : ¬ (1 ≤ st ∧ st ≤ 6)) : Value.int .u8 63 = bv (taskL st) := by
  rw [taskL, if_neg h]; rfl
def taskOf (t : Task) : UInt8 := taskL t.state
def runPre (r : Run) : ByteArray := ((itoaB r.id ++ (⟨#[32]⟩ : ByteArray)) ++ wordAtB [(⟨#[108, 105, 118, 101]⟩ : ByteArray), (⟨#[100, 111, 110, 101]⟩ : ByteArray), (⟨#[102, 97, 105, 108, 101, 100]⟩ : ByteArray), (⟨#[108, 101, 102, 116]⟩ : ByteArray)] r.state) ++ (⟨#[32]⟩ : ByteArray)
def runTo (r : Run) (k : Nat) : ByteArray := runPre r ++ (⟨((r.tasks.take k).map taskOf).toArray⟩ : ByteArray)
def runLine (r : Run) : ByteArray := runTo r r.tasks.length
theorem runPre_size {r : Run} (h : -9223372036854775808 ≤ r.id ∧ r.id ≤ 9223372036854775807) : (runPre r).size ≤ 40 := by
  have h1 := itoaB_size h
  have h2 := stateW_size r.state
  unfold runPre
  simp only [ByteArray.size_append, bsz, List.size_toArray, List.length_cons, List.length_nil]
  omega
theorem runTo_0 (r : Run) : runTo r 0 = runPre r := by apply ByteArray.ext; simp [runTo]
theorem map_to {α β : Type} (f : α → β) {xs : List α} {k : Nat} (hk : k < xs.length) : (xs.take (k + 1)).map f = (xs.take k).map f ++ [f xs[k]] := by
  rw [List.take_succ_eq_append_getElem hk, List.map_append]; rfl
theorem runTo_step {r : Run} {k : Nat} (hk : k < r.tasks.length) : runTo r k ++ wordAtB [(⟨#[119]⟩ : ByteArray), (⟨#[114]⟩ : ByteArray), (⟨#[120]⟩ : ByteArray), (⟨#[100]⟩ : ByteArray), (⟨#[102]⟩ : ByteArray), (⟨#[108]⟩ : ByteArray)] r.tasks[k].state = runTo r (k + 1) := by
  rw [taskW_eq]
  unfold runTo
  rw [map_to _ hk]
  apply ByteArray.ext; simp [taskOf]
theorem runTo_size {r : Run} {k : Nat} : (runTo r k).size ≤ (runPre r).size + k := by
  unfold runTo
  simp only [ByteArray.size_append, bsz, List.size_toArray, List.length_map]
  have := List.length_take_le k r.tasks
  omega
theorem runB_0 (r : Run) : (runPre r).data.toList = (runTo r 0).data.toList := by rw [runTo_0]
theorem runB_step {r : Run} {k : Nat} (hk : k < r.tasks.length) : (runTo r k).data.toList ++ [taskL r.tasks[k].state] = (runTo r (k + 1)).data.toList := by
  unfold runTo
  rw [map_to _ hk]
  simp [taskOf]
theorem runB_len {r : Run} {k : Nat} : (runTo r k).data.toList.length = (runTo r k).size := by rw [Array.length_toList]; rfl

set_option maxHeartbeats 2000000 in
theorem WordAtI (w : World) {v : Value} {ws : List ByteArray} {fp : List Nat} (h : Sl w v ws fp) (n : Int) (hn : -9223372036854775808 ≤ n ∧ n ≤ 9223372036854775807) :
    Calls Tryd.prog 32 #[v, I n] w fun e w' => e = .returned (.string (wordAtB ws n)) ∧ St w w' [] := by
  have hcap := h.len_le
  refine enter2 Tryd.func32 rfl Tryd.ntmps32 (by decide) ?_
  refine wp_seq ?_
  refine sx_region ?_
  refine sx rfl (stp_assign (v := .string (⟨#[]⟩ : ByteArray)) rfl ?_)
  refine sx_nil ?_
  refine wp_seq ?_
  refine wp_seq ?_
  refine sx_region ?_
  refine sx rfl (stp_move (v := I n) rfl ?_)
  refine sx rfl (stp_move (v := v) rfl ?_)
  refine sx rfl (stp_len sl_StringS rfl h ?_)
  refine sx rfl (stp_call3 Tryd.func53 rfl rfl rfl rfl ((within_n w n 1 (ws.length : Int)).mono ?_)); rintro _ W1 ⟨rfl, hk2⟩; refine ⟨_, rfl, ?_⟩
  have st3 := St.call (St.start w) hk2
  refine sx rfl (stp_not rfl ?_)
  refine sx_nil ?_
  refine sx_if rfl (fun h5 => ?_) (fun h5 => ?_)
  · skip
    have h5p := inB_not (bnot_t h5)
    refine wp_seq ?_
    refine sx_region ?_
    refine sx rfl (stp_assign (v := .string (⟨#[63]⟩ : ByteArray)) rfl ?_)
    refine sx_nil ?_
    refine wp_ret ?_; repeat (first | refine then_ret ?_ | refine blk_ret ?_)
    refine ret1 Tryd.results32 rfl ?_
    exact ⟨(congrArg (fun z => Ending.returned (.string z)) (by rw [wordAtB_out (by omega)])), st3.bare⟩
  · skip
    have h5p := inB_iff'.1 (bnot_f h5)
    refine wp_skip ?_
    refine wp_seq ?_
    refine sx_region ?_
    refine sx rfl (stp_move (v := v) rfl ?_)
    refine sx rfl (stp_move (v := I n) rfl ?_)
    refine sx rfl (stp_sub rfl rfl (by (simp only [I64] at *; omega)) ?_)
    have hi3d93d : (n - 1).toNat < ws.length := (by omega)
    have hq_ := idx h (i := (n - 1).toNat) hi3d93d
    obtain ⟨b6, o6, cs6, f6, hp6, hr6, hc6, hm6⟩ := hq_
    have hk6 := hc6
    obtain ⟨rfl, rfl, hok6⟩ := hk6
    refine sx rfl (stp_indexAddr sl_StringS rfl hp6 rfl (by omega) ?_)
    refine sx rfl (stp_load_rg ld_string rfl rfl hr6 st3.below (i := 0) rfl rfl ?_)
    refine sx rfl (stp_assign (v := .string (ws[(n - 1).toNat]'hi3d93d)) rfl ?_)
    refine sx_nil ?_
    refine wp_ret ?_; repeat (first | refine then_ret ?_ | refine blk_ret ?_)
    refine ret1 Tryd.results32 rfl ?_
    exact ⟨(congrArg (fun z => Ending.returned (.string z)) (wordAtB_in (by omega) _)), st3.bare⟩
set_option maxHeartbeats 2000000 in
theorem RunLineI (w : World) {r : Run} {cs : List Value} {fp : List Nat} (hc : Shape.C w cs r fp) (hw : r.wt ≤ 1048576) (htab : Lib.TabIs Tryd.prog w "internal/strconv.uint64pow10" .u64 Lib.pow10Tab) :
    Calls Tryd.prog 13 #[.agg cs.toArray] w fun e w' => e = .returned (.string (runLine r)) ∧ St w w' [] := by
  have hr64 : r.ok := by have h0 := hc; obtain ⟨v1, v2, f1, f2, h0, hok, h1, h2, hfp⟩ := h0; exact hok
  simp only [Run.ok, Plan.ok, I64] at hr64
  have htl : r.tasks.length ≤ 1048576 := by unfold Run.wt at hw; omega
  have hz1 := itoaB_size (z := r.id) (by omega)
  have hps := runPre_size (r := r) (by omega)
  have hsw := stateW_size r.state
  refine enter1 Tryd.func13 rfl Tryd.ntmps13 (by decide) ?_
  refine wp_seq ?_
  refine sx_region ?_
  refine sx rfl (stp_box_agg (cs := cs) rfl (St.start w) ?_); intro b1 W2 hb3 st4
  refine sx rfl (stp_assign (v := .string (⟨#[]⟩ : ByteArray)) rfl ?_)
  refine sx_nil ?_
  refine wp_seq ?_
  have hk6 := hc
  obtain ⟨v6_0, v6_1, g6_0, g6_1, rfl, hok6, h6_0, h6_1, rfl⟩ := hk6
  refine sx_any [Pl.is (.pointer (some ⟨b1, 0 + 0, none⟩)), Pl.is (I r.id), Pl.is (.string (itoaB r.id)), Pl.is (.string ((itoaB r.id) ++ (⟨#[32]⟩ : ByteArray))), Pl.blk W2.heap.size [.string (⟨#[108, 105, 118, 101]⟩ : ByteArray), .string (⟨#[100, 111, 110, 101]⟩ : ByteArray), .string (⟨#[102, 97, 105, 108, 101, 100]⟩ : ByteArray), .string (⟨#[108, 101, 102, 116]⟩ : ByteArray)] 9 4, Pl.is (.pointer (some ⟨b1, 0 + 6, none⟩)), Pl.is (I r.state), Pl.is (.string (wordAtB ([(⟨#[108, 105, 118, 101]⟩ : ByteArray), (⟨#[100, 111, 110, 101]⟩ : ByteArray), (⟨#[102, 97, 105, 108, 101, 100]⟩ : ByteArray), (⟨#[108, 101, 102, 116]⟩ : ByteArray)]) r.state)), Pl.is (.string (((itoaB r.id) ++ (⟨#[32]⟩ : ByteArray)) ++ (wordAtB ([(⟨#[108, 105, 118, 101]⟩ : ByteArray), (⟨#[100, 111, 110, 101]⟩ : ByteArray), (⟨#[102, 97, 105, 108, 101, 100]⟩ : ByteArray), (⟨#[108, 101, 102, 116]⟩ : ByteArray)]) r.state))), Pl.is (.string ((((itoaB r.id) ++ (⟨#[32]⟩ : ByteArray)) ++ (wordAtB ([(⟨#[108, 105, 118, 101]⟩ : ByteArray), (⟨#[100, 111, 110, 101]⟩ : ByteArray), (⟨#[102, 97, 105, 108, 101, 100]⟩ : ByteArray), (⟨#[108, 101, 102, 116]⟩ : ByteArray)]) r.state)) ++ (⟨#[32]⟩ : ByteArray))), Pl.is (.string ((((itoaB r.id) ++ (⟨#[32]⟩ : ByteArray)) ++ (wordAtB ([(⟨#[108, 105, 118, 101]⟩ : ByteArray), (⟨#[100, 111, 110, 101]⟩ : ByteArray), (⟨#[102, 97, 105, 108, 101, 100]⟩ : ByteArray), (⟨#[108, 101, 102, 116]⟩ : ByteArray)]) r.state)) ++ (⟨#[32]⟩ : ByteArray)))] mix (by rfl) st4 ⟨(fun f W hst hbl hd hf => stp_fieldAddr fa_Run_0 ((hf 1 rfl).trans (show _ = (.pointer (some ⟨b1, 0, none⟩) : Value) from rfl)) ⟨Below.refl _ _, rfl⟩), (fun f W hst hbl hd hf => stp_load_bx ld_int rfl (hd 0 6 rfl rfl) (hst.get 0 rfl) (i := 0) rfl rfl ⟨Below.refl _ _, rfl⟩), (fun f W hst hbl hd hf => stp_call1 Tryd.func31 rfl (hd 1 7 rfl rfl) ((DecimalI W r.id (by omega) (TabIs.below htab hst.below)).mono (by rintro e W2 ⟨rfl, hk⟩; exact ⟨_, rfl, hk.below, rfl⟩))), (fun f W hst hbl hd hf => stp_sadd (hd 2 8 rfl rfl) rfl (by simp only [ByteArray.size_append, bsz, List.size_toArray, List.length_cons, List.length_nil, List.length_map]; omega) ⟨Below.refl _ _, rfl⟩), (fun f W hst hbl hd hf => stp_blk (cs := [.string (⟨#[108, 105, 118, 101]⟩ : ByteArray), .string (⟨#[100, 111, 110, 101]⟩ : ByteArray), .string (⟨#[102, 97, 105, 108, 101, 100]⟩ : ByteArray), .string (⟨#[108, 101, 102, 116]⟩ : ByteArray)]) (e := 9) (pcons (v := .string (⟨#[108, 105, 118, 101]⟩ : ByteArray)) rfl (pcons (v := .string (⟨#[100, 111, 110, 101]⟩ : ByteArray)) rfl (pcons (v := .string (⟨#[102, 97, 105, 108, 101, 100]⟩ : ByteArray)) rfl (pcons (v := .string (⟨#[108, 101, 102, 116]⟩ : ByteArray)) rfl pnil)))) (run_buildSliceN ap_StringS _ rfl (lc_cons rfl (lc_cons rfl (lc_cons rfl (lc_cons rfl lc_nil))))) hbl), (fun f W hst hbl hd hf => stp_fieldAddr fa_Run_2 ((hf 1 rfl).trans (show _ = (.pointer (some ⟨b1, 0, none⟩) : Value) from rfl)) ⟨Below.refl _ _, rfl⟩), (fun f W hst hbl hd hf => stp_load_bx ld_int rfl (hd 5 11 rfl rfl) (hst.get 0 rfl) (i := 6) rfl rfl ⟨Below.refl _ _, rfl⟩), (fun f W hst hbl hd hf => by obtain ⟨b7, e7, hh7, hn7⟩ := hd 4 10 rfl rfl; exact stp_call2 Tryd.func32 rfl e7 (hd 6 12 rfl rfl) ((WordAtI W (blk_Sl (ys := [(⟨#[108, 105, 118, 101]⟩ : ByteArray), (⟨#[100, 111, 110, 101]⟩ : ByteArray), (⟨#[102, 97, 105, 108, 101, 100]⟩ : ByteArray), (⟨#[108, 101, 102, 116]⟩ : ByteArray)]) (by simp) (Elems.sc (by simp only [bsz, List.size_toArray, List.length_cons, List.length_nil, maxLen]; omega) (Elems.sc (by simp only [bsz, List.size_toArray, List.length_cons, List.length_nil, maxLen]; omega) (Elems.sc (by simp only [bsz, List.size_toArray, List.length_cons, List.length_nil, maxLen]; omega) (Elems.sc (by simp only [bsz, List.size_toArray, List.length_cons, List.length_nil, maxLen]; omega) Elems.s0)))) hh7) r.state (by omega)).mono (by rintro e W2 ⟨rfl, hk⟩; exact ⟨_, rfl, hk.below, rfl⟩))), (fun f W hst hbl hd hf => stp_sadd (hd 3 9 rfl rfl) (hd 7 13 rfl rfl) (by simp only [ByteArray.size_append, bsz, List.size_toArray, List.length_cons, List.length_nil, List.length_map]; omega) ⟨Below.refl _ _, rfl⟩), (fun f W hst hbl hd hf => stp_sadd (hd 8 14 rfl rfl) rfl (by simp only [ByteArray.size_append, bsz, List.size_toArray, List.length_cons, List.length_nil, List.length_map]; omega) ⟨Below.refl _ _, rfl⟩), (fun f W hst hbl hd hf => stp_assign (v := .string ((((itoaB r.id) ++ (⟨#[32]⟩ : ByteArray)) ++ (wordAtB ([(⟨#[108, 105, 118, 101]⟩ : ByteArray), (⟨#[100, 111, 110, 101]⟩ : ByteArray), (⟨#[102, 97, 105, 108, 101, 100]⟩ : ByteArray), (⟨#[108, 101, 102, 116]⟩ : ByteArray)]) r.state)) ++ (⟨#[32]⟩ : ByteArray))) (hd 9 15 rfl rfl) ⟨Below.refl _ _, rfl⟩), trivial⟩ ?_
  intro f8 W9 st10 hb11 hv12 hf13
  have hq_ := hv12 4 10 (by decide) rfl
  obtain ⟨b14, hv15, hh15, hn15⟩ := hq_
  have st16 := St.add st4 st10 hh15 hn15
  refine wp_seq ?_
  refine wp_seq ?_
  refine sx_region ?_
  refine sx rfl (stp_fieldAddr fa_Run_3 ((hf13 1 rfl).trans (show _ = (.pointer (some ⟨b1, 0, none⟩) : Value) from rfl)) ?_)
  refine sx rfl (stp_load_bx ld_TaskS rfl rfl (st16.get 1 rfl) (i := 7) rfl rfl ?_)
  refine sx rfl (stp_len sl_TaskS rfl h6_1 ?_)
  refine sx rfl (stp_move (v := I 0) rfl ?_)
  refine sx_nil ?_
  refine wp_block ?_
  refine sx_loop (fun (m : Nat) (f : Nat → Value) (W : World) => ∃ (k : Nat), k ≤ r.tasks.length ∧ m = r.tasks.length - k ∧ f 3 = .string (runTo r k) ∧ f 17 = v6_1 ∧ f 18 = I (r.tasks.length : Int) ∧ f 19 = I (k : Int) ∧ St w W ([Res.bx b14 [.string (⟨#[108, 105, 118, 101]⟩ : ByteArray), .string (⟨#[100, 111, 110, 101]⟩ : ByteArray), .string (⟨#[102, 97, 105, 108, 101, 100]⟩ : ByteArray), .string (⟨#[108, 101, 102, 116]⟩ : ByteArray)] 9, Res.bx b1 [I r.id, I r.plan.prio, I r.plan.most, I r.plan.wait, I r.plan.tasks, v6_0, I r.state, v6_1] 41])) (r.tasks.length - 0) ?_ ?_
  · exact ⟨0, (by omega), rfl, (Eq.trans (show _ = (.string ((((itoaB r.id) ++ (⟨#[32]⟩ : ByteArray)) ++ (wordAtB ([(⟨#[108, 105, 118, 101]⟩ : ByteArray), (⟨#[100, 111, 110, 101]⟩ : ByteArray), (⟨#[102, 97, 105, 108, 101, 100]⟩ : ByteArray), (⟨#[108, 101, 102, 116]⟩ : ByteArray)]) r.state)) ++ (⟨#[32]⟩ : ByteArray)) : Value) from (hv12 10 3 (by decide) rfl)) (congrArg Value.string (runTo_0 r).symm)), rfl, rfl, rfl, st16⟩
  intro m18 f19 W20 hJ21
  obtain ⟨k, hk, rfl, hs23_3, hs23_17, hs23_18, hs23_19, st22⟩ := hJ21
  have hrs := runTo_size (r := r) (k := k)
  refine wp_seq ?_
  refine sx_region ?_
  refine sx rfl (stp_lss hs23_19 hs23_18 ?_)
  refine sx_nil ?_
  refine wp_seq ?_
  refine sx_if rfl (fun h24 => ?_) (fun h24 => ?_)
  · skip
    have h24p := of_decide_eq_true h24
    refine wp_skip ?_
    refine wp_seq ?_
    refine wp_block ?_
    refine wp_seq ?_
    refine sx_region ?_
    have hif4d94 : k < r.tasks.length := (by omega)
    have hq_ := idx h6_1 (i := k) hif4d94
    obtain ⟨b25, o25, cs25, f25, hp25, hr25, hc25, hm25⟩ := hq_
    refine sx rfl (stp_indexAddr sl_TaskS hs23_17 hp25 hs23_19 rfl ?_)
    refine sx rfl (stp_load_rga ld_Task rfl rfl hr25 st22.below (Shape.len hc25) ?_)
    refine sx rfl (stp_alloc zz_Task st22 ?_); intro b26 W27 hb28 st29
    refine sx rfl (stp_store_all (cs := cs25) ld_Task hc25 rfl rfl st29 rfl ?_); intro W31 st32
    refine sx_nil ?_
    refine sx_region ?_
    refine sx rfl (stp_move (v := .string (runTo r k)) hs23_3 ?_)
    refine sx rfl (stp_buildSlice (cs := [.string (⟨#[119]⟩ : ByteArray), .string (⟨#[114]⟩ : ByteArray), .string (⟨#[120]⟩ : ByteArray), .string (⟨#[100]⟩ : ByteArray), .string (⟨#[102]⟩ : ByteArray), .string (⟨#[108]⟩ : ByteArray)]) (e := 9) (pcons (v := .string (⟨#[119]⟩ : ByteArray)) rfl (pcons (v := .string (⟨#[114]⟩ : ByteArray)) rfl (pcons (v := .string (⟨#[120]⟩ : ByteArray)) rfl (pcons (v := .string (⟨#[100]⟩ : ByteArray)) rfl (pcons (v := .string (⟨#[102]⟩ : ByteArray)) rfl (pcons (v := .string (⟨#[108]⟩ : ByteArray)) rfl pnil)))))) (run_buildSliceN ap_StringS _ rfl (lc_cons rfl (lc_cons rfl (lc_cons rfl (lc_cons rfl (lc_cons rfl (lc_cons rfl lc_nil))))))) st32 ?_); intro b33 W34 hb35 st36
    refine sx rfl (stp_fieldAddr fa_Task_0 rfl ?_)
    have hk38 := hc25
    obtain ⟨he38, rfl, hok38⟩ := hk38
    have he38 : _ = [I (r.tasks[k]'hif4d94).state, I (r.tasks[k]'hif4d94).need, I (r.tasks[k]'hif4d94).try_, I (r.tasks[k]'hif4d94).until_] := he38
    subst he38
    refine sx rfl (stp_load_bx ld_int rfl rfl (st36.get 1 rfl) (i := 0) rfl rfl ?_)
    have htw := taskW_size (r.tasks[k]'(by omega)).state
    have hts : Task.ok (r.tasks[k]'(by omega)) := by assumption
    simp only [Task.ok, I64] at hts
    have st39 := St.row_lit (α := ByteArray) (ys := [(⟨#[119]⟩ : ByteArray), (⟨#[114]⟩ : ByteArray), (⟨#[120]⟩ : ByteArray), (⟨#[100]⟩ : ByteArray), (⟨#[102]⟩ : ByteArray), (⟨#[108]⟩ : ByteArray)]) st36 rfl (Nat.le_of_ble_eq_true rfl) (Elems.sc (by simp only [bsz, List.size_toArray, List.length_cons, List.length_nil, maxLen]; omega) (Elems.sc (by simp only [bsz, List.size_toArray, List.length_cons, List.length_nil, maxLen]; omega) (Elems.sc (by simp only [bsz, List.size_toArray, List.length_cons, List.length_nil, maxLen]; omega) (Elems.sc (by simp only [bsz, List.size_toArray, List.length_cons, List.length_nil, maxLen]; omega) (Elems.sc (by simp only [bsz, List.size_toArray, List.length_cons, List.length_nil, maxLen]; omega) (Elems.sc (by simp only [bsz, List.size_toArray, List.length_cons, List.length_nil, maxLen]; omega) Elems.s0))))))
    refine sx rfl (stp_call2 Tryd.func32 rfl rfl rfl ((WordAtI W34 (row_Sl (st39.get 0 rfl)) (r.tasks[k]'hif4d94).state (by omega)).mono ?_)); rintro _ W40 ⟨rfl, hk41⟩; refine ⟨_, rfl, ?_⟩
    have st42 := St.call st39 hk41
    refine sx rfl (stp_sadd rfl rfl (by omega) ?_)
    refine sx rfl (stp_assign (v := .string ((runTo r k) ++ (wordAtB ([(⟨#[119]⟩ : ByteArray), (⟨#[114]⟩ : ByteArray), (⟨#[120]⟩ : ByteArray), (⟨#[100]⟩ : ByteArray), (⟨#[102]⟩ : ByteArray), (⟨#[108]⟩ : ByteArray)]) (r.tasks[k]'hif4d94).state))) rfl ?_)
    refine sx_nil ?_
    refine sx_region ?_
    refine sx rfl (stp_add hs23_19 rfl (by (simp only [I64] at *; omega)) ?_)
    refine sx rfl (stp_move (v := I ((k : Int) + 1)) rfl ?_)
    refine sx_nil ?_
    have st44 := st42.f3
    have st45 := st44.f3
    have st46 := st45.d2
    have st47 := st46.d2
    exact ⟨_, r.tasks.length - (k + 1), (by omega), rfl, k + 1, (by omega), rfl, (Eq.trans (show _ = (.string ((runTo r k) ++ (wordAtB ([(⟨#[119]⟩ : ByteArray), (⟨#[114]⟩ : ByteArray), (⟨#[120]⟩ : ByteArray), (⟨#[100]⟩ : ByteArray), (⟨#[102]⟩ : ByteArray), (⟨#[108]⟩ : ByteArray)]) (r.tasks[k]'hif4d94).state)) : Value) from rfl) (congrArg Value.string (runTo_step (by omega)))), hs23_17, hs23_18, rfl, st47⟩
  · skip
    have h24p := of_decide_eq_false h24
    refine wp_exit ?_
    refine wp_seq ?_
    refine sx_region ?_
    refine sx rfl (stp_move (v := .string (runTo r k)) hs23_3 ?_)
    refine sx rfl (stp_assign (v := .string (runTo r k)) rfl ?_)
    refine sx_nil ?_
    refine wp_ret ?_; repeat (first | refine then_ret ?_ | refine blk_ret ?_)
    refine ret1 Tryd.results13 rfl ?_
    obtain rfl : k = r.tasks.length := by omega
    exact ⟨rfl, st22.bare⟩
set_option maxHeartbeats 2000000 in
theorem RunLineS (w : World) {r : Run} {cs : List Value} {fp : List Nat} (hc : Shape.C w cs r fp) (hw : r.wt ≤ 1048576) :
    Calls Tryd.prog 11 #[.agg cs.toArray] w fun e w' => e = .returned (.string (runLine r)) ∧ St w w' [] := by
  have hr64 : r.ok := by have h0 := hc; obtain ⟨v1, v2, f1, f2, h0, hok, h1, h2, hfp⟩ := h0; exact hok
  simp only [Run.ok, Plan.ok, I64] at hr64
  have htl : r.tasks.length ≤ 1048576 := by unfold Run.wt at hw; omega
  have hz1 := itoaB_size (z := r.id) (by omega)
  have hps := runPre_size (r := r) (by omega)
  have hsw := stateW_size r.state
  refine enter1 Tryd.func11 rfl Tryd.ntmps11 (by decide) ?_
  refine wp_seq ?_
  refine sx_region ?_
  refine sx rfl (stp_box_agg (cs := cs) rfl (St.start w) ?_); intro b1 W2 hb3 st4
  refine sx rfl (stp_assign (v := .string (⟨#[]⟩ : ByteArray)) rfl ?_)
  refine sx_nil ?_
  refine wp_seq ?_
  refine sx_region ?_
  refine sx rfl (stp_assign (v := .string (⟨#[63]⟩ : ByteArray)) rfl ?_)
  refine sx_nil ?_
  refine wp_seq ?_
  refine wp_seq ?_
  refine sx_region ?_
  refine sx rfl (stp_fieldAddr fa_Run_2 rfl ?_)
  have hk6 := hc
  obtain ⟨v6_0, v6_1, g6_0, g6_1, rfl, hok6, h6_0, h6_1, rfl⟩ := hk6
  refine sx rfl (stp_load_bx ld_int rfl rfl (st4.get 0 rfl) (i := 6) rfl rfl ?_)
  refine sx rfl (stp_call3 Tryd.func28 rfl rfl rfl rfl ((l01In_n W2 r.state 1 4).mono ?_)); rintro _ W7 ⟨rfl, hk8⟩; refine ⟨_, rfl, ?_⟩
  have st9 := St.call st4 hk8
  refine sx_nil ?_
  refine sx_if rfl (fun h11 => ?_) (fun h11 => ?_)
  · skip
    have h11p := inB_iff'.1 h11
    refine sx_region ?_
    refine sx rfl (stp_buildSlice (cs := [.string (⟨#[]⟩ : ByteArray), .string (⟨#[108, 105, 118, 101]⟩ : ByteArray), .string (⟨#[100, 111, 110, 101]⟩ : ByteArray), .string (⟨#[102, 97, 105, 108, 101, 100]⟩ : ByteArray), .string (⟨#[108, 101, 102, 116]⟩ : ByteArray)]) (e := 9) (pcons (v := .string (⟨#[]⟩ : ByteArray)) rfl (pcons (v := .string (⟨#[108, 105, 118, 101]⟩ : ByteArray)) rfl (pcons (v := .string (⟨#[100, 111, 110, 101]⟩ : ByteArray)) rfl (pcons (v := .string (⟨#[102, 97, 105, 108, 101, 100]⟩ : ByteArray)) rfl (pcons (v := .string (⟨#[108, 101, 102, 116]⟩ : ByteArray)) rfl pnil))))) (run_buildSliceN ap_StringS _ rfl (lc_cons rfl (lc_cons rfl (lc_cons rfl (lc_cons rfl (lc_cons rfl lc_nil)))))) st9 ?_); intro b12 W13 hb14 st15
    refine sx rfl (stp_fieldAddr fa_Run_2 rfl ?_)
    refine sx rfl (stp_load_bx ld_int rfl rfl (st15.get 1 rfl) (i := 6) rfl rfl ?_)
    have st17 := St.row_lit (α := ByteArray) (ys := [(⟨#[]⟩ : ByteArray), (⟨#[108, 105, 118, 101]⟩ : ByteArray), (⟨#[100, 111, 110, 101]⟩ : ByteArray), (⟨#[102, 97, 105, 108, 101, 100]⟩ : ByteArray), (⟨#[108, 101, 102, 116]⟩ : ByteArray)]) st15 rfl (Nat.le_of_ble_eq_true rfl) (Elems.sc (by simp only [bsz, List.size_toArray, List.length_cons, List.length_nil, maxLen]; omega) (Elems.sc (by simp only [bsz, List.size_toArray, List.length_cons, List.length_nil, maxLen]; omega) (Elems.sc (by simp only [bsz, List.size_toArray, List.length_cons, List.length_nil, maxLen]; omega) (Elems.sc (by simp only [bsz, List.size_toArray, List.length_cons, List.length_nil, maxLen]; omega) (Elems.sc (by simp only [bsz, List.size_toArray, List.length_cons, List.length_nil, maxLen]; omega) Elems.s0)))))
    have hi82214 : (r.state).toNat < ([(⟨#[]⟩ : ByteArray), (⟨#[108, 105, 118, 101]⟩ : ByteArray), (⟨#[100, 111, 110, 101]⟩ : ByteArray), (⟨#[102, 97, 105, 108, 101, 100]⟩ : ByteArray), (⟨#[108, 101, 102, 116]⟩ : ByteArray)]).length := (by simp only [List.length_cons, List.length_nil]; omega)
    have hq_ := idx (row_Sl (st17.get 0 rfl)) (i := (r.state).toNat) hi82214
    obtain ⟨b18, o18, cs18, f18, hp18, hr18, hc18, hm18⟩ := hq_
    have hk18 := hc18
    obtain ⟨rfl, rfl, hok18⟩ := hk18
    refine sx rfl (stp_indexAddr sl_StringS rfl hp18 rfl (by omega) ?_)
    refine sx rfl (stp_load_rg ld_string rfl rfl hr18 (Below.refl _ _) (i := 0) rfl rfl ?_)
    refine sx rfl (stp_assign (v := .string (([(⟨#[]⟩ : ByteArray), (⟨#[108, 105, 118, 101]⟩ : ByteArray), (⟨#[100, 111, 110, 101]⟩ : ByteArray), (⟨#[102, 97, 105, 108, 101, 100]⟩ : ByteArray), (⟨#[108, 101, 102, 116]⟩ : ByteArray)])[(r.state).toNat]'hi82214)) rfl ?_)
    refine sx_nil ?_
    refine wp_seq ?_
    refine sx_region ?_
    refine sx rfl (stp_fieldAddr fa_Run_0 rfl ?_)
    refine sx rfl (stp_load_bx ld_int rfl rfl (st17.get 1 rfl) (i := 0) rfl rfl ?_)
    refine sx rfl (stp_call1 Tryd.func24 rfl rfl ((DecimalS W13 r.id (by omega)).mono ?_)); rintro _ W19 ⟨rfl, hk20⟩; refine ⟨_, rfl, ?_⟩
    have st21 := St.call st17 hk20
    have hstx : ((([(⟨#[]⟩ : ByteArray), (⟨#[108, 105, 118, 101]⟩ : ByteArray), (⟨#[100, 111, 110, 101]⟩ : ByteArray), (⟨#[102, 97, 105, 108, 101, 100]⟩ : ByteArray), (⟨#[108, 101, 102, 116]⟩ : ByteArray)])[(r.state).toNat]'hi82214)).size ≤ 6 := by rw [show (([(⟨#[]⟩ : ByteArray), (⟨#[108, 105, 118, 101]⟩ : ByteArray), (⟨#[100, 111, 110, 101]⟩ : ByteArray), (⟨#[102, 97, 105, 108, 101, 100]⟩ : ByteArray), (⟨#[108, 101, 102, 116]⟩ : ByteArray)])[(r.state).toNat]'hi82214) = wordAtB [(⟨#[108, 105, 118, 101]⟩ : ByteArray), (⟨#[100, 111, 110, 101]⟩ : ByteArray), (⟨#[102, 97, 105, 108, 101, 100]⟩ : ByteArray), (⟨#[108, 101, 102, 116]⟩ : ByteArray)] r.state from stateW_S (by omega) _]; exact stateW_size _
    refine sx rfl (stp_sadd rfl rfl (by simp only [ByteArray.size_append, bsz, List.size_toArray, List.length_cons, List.length_nil, List.length_map]; omega) ?_)
    refine sx rfl (stp_move (v := .string (([(⟨#[]⟩ : ByteArray), (⟨#[108, 105, 118, 101]⟩ : ByteArray), (⟨#[100, 111, 110, 101]⟩ : ByteArray), (⟨#[102, 97, 105, 108, 101, 100]⟩ : ByteArray), (⟨#[108, 101, 102, 116]⟩ : ByteArray)])[(r.state).toNat]'hi82214)) rfl ?_)
    refine sx rfl (stp_sadd rfl rfl (by simp only [ByteArray.size_append, bsz, List.size_toArray, List.length_cons, List.length_nil, List.length_map]; omega) ?_)
    refine sx rfl (stp_sadd rfl rfl (by simp only [ByteArray.size_append, bsz, List.size_toArray, List.length_cons, List.length_nil, List.length_map]; omega) ?_)
    have st23 := st21.f1
    have st24 := st23.d1
    refine sx rfl (stp_bytesOf (no := [b1]) Tryd.underlying9 Tryd.underlying64 Tryd.underlying5 rfl (by simp only [ByteArray.size_append, bsz, List.size_toArray, List.length_cons, List.length_nil, maxLen]; omega) st24 (by intro b_ hb_; simp only [List.mem_cons, List.not_mem_nil, or_false] at hb_; subst hb_; exact (Array.getElem?_eq_some_iff.1 (show _ = some _ from st24.get 0 rfl)).1) ?_); intro v25 W26 hb27 st28 hm29
    refine sx rfl (stp_assign (v := v25) rfl ?_)
    refine sx_nil ?_
    refine wp_seq ?_
    refine wp_seq ?_
    refine sx_region ?_
    refine sx rfl (stp_assign (v := I 0) rfl ?_)
    refine sx_nil ?_
    refine wp_block ?_
    have hpre : (((itoaB r.id) ++ (⟨#[32]⟩ : ByteArray)) ++ (([(⟨#[]⟩ : ByteArray), (⟨#[108, 105, 118, 101]⟩ : ByteArray), (⟨#[100, 111, 110, 101]⟩ : ByteArray), (⟨#[102, 97, 105, 108, 101, 100]⟩ : ByteArray), (⟨#[108, 101, 102, 116]⟩ : ByteArray)])[(r.state).toNat]'hi82214)) ++ (⟨#[32]⟩ : ByteArray) = runPre r := by unfold runPre; rw [show (([(⟨#[]⟩ : ByteArray), (⟨#[108, 105, 118, 101]⟩ : ByteArray), (⟨#[100, 111, 110, 101]⟩ : ByteArray), (⟨#[102, 97, 105, 108, 101, 100]⟩ : ByteArray), (⟨#[108, 101, 102, 116]⟩ : ByteArray)])[(r.state).toNat]'hi82214) = wordAtB [(⟨#[108, 105, 118, 101]⟩ : ByteArray), (⟨#[100, 111, 110, 101]⟩ : ByteArray), (⟨#[102, 97, 105, 108, 101, 100]⟩ : ByteArray), (⟨#[108, 101, 102, 116]⟩ : ByteArray)] r.state from stateW_S (by omega) _]
    rw [hpre] at hm29
    refine sx_loop (fun (m : Nat) (f : Nat → Value) (W : World) => ∃ (k : Nat) (vm : Value), k ≤ r.tasks.length ∧ MRow W 5 vm (runTo r k).data.toList w.heap.size [b1] ∧ m = r.tasks.length - k ∧ f 1 = .pointer (some ⟨b1, 0, none⟩) ∧ f 4 = vm ∧ f 5 = I (k : Int) ∧ St w W ([Res.bx b1 [I r.id, I r.plan.prio, I r.plan.most, I r.plan.wait, I r.plan.tasks, v6_0, I r.state, v6_1] 41])) (r.tasks.length - 0) ?_ ?_
    · exact ⟨0, v25, (by omega), (by rw [← runB_0]; exact hm29), rfl, rfl, rfl, rfl, st28⟩
    intro m30 f31 W32 hJ33
    obtain ⟨k, vm, hk, hm, rfl, hs35_1, hs35_4, hs35_5, st34⟩ := hJ33
    have hrs := runTo_size (r := r) (k := k)
    have hrl := runB_len (r := r) (k := k)
    refine wp_seq ?_
    refine wp_seq ?_
    refine sx_region ?_
    refine sx rfl (stp_move (v := I (k : Int)) hs35_5 ?_)
    refine sx rfl (stp_fieldAddr fa_Run_3 hs35_1 ?_)
    refine sx rfl (stp_load_bx ld_TaskS rfl rfl (st34.get 0 rfl) (i := 7) rfl rfl ?_)
    refine sx rfl (stp_len sl_TaskS rfl h6_1 ?_)
    refine sx rfl (stp_lss rfl rfl ?_)
    refine sx_nil ?_
    refine sx_if rfl (fun h36 => ?_) (fun h36 => ?_)
    · skip
      have h36p := of_decide_eq_true h36
      refine wp_skip ?_
      refine wp_seq ?_
      refine wp_block ?_
      refine wp_seq ?_
      refine sx_region ?_
      refine sx rfl (stp_assign (v := .int .u8 63) rfl ?_)
      refine sx_nil ?_
      refine wp_seq ?_
      refine wp_seq ?_
      refine sx_region ?_
      refine sx rfl (stp_fieldAddr fa_Run_3 hs35_1 ?_)
      refine sx rfl (stp_load_bx ld_TaskS rfl rfl (st34.get 0 rfl) (i := 7) rfl rfl ?_)
      refine sx rfl (stp_move (v := I (k : Int)) hs35_5 ?_)
      have hif4d94 : k < r.tasks.length := (by omega)
      have hq_ := idx h6_1 (i := k) hif4d94
      obtain ⟨b37, o37, cs37, f37, hp37, hr37, hc37, hm37⟩ := hq_
      refine sx rfl (stp_indexAddr sl_TaskS rfl hp37 rfl rfl ?_)
      refine sx rfl (stp_fieldAddr fa_Task_0 rfl ?_)
      have hk38 := hc37
      obtain ⟨he38, rfl, hok38⟩ := hk38
      have he38 : _ = [I (r.tasks[k]'hif4d94).state, I (r.tasks[k]'hif4d94).need, I (r.tasks[k]'hif4d94).try_, I (r.tasks[k]'hif4d94).until_] := he38
      subst he38
      refine sx rfl (stp_load_rg ld_int rfl rfl hr37 st34.below (i := 0) rfl rfl ?_)
      refine sx rfl (stp_call3 Tryd.func28 rfl rfl rfl rfl ((l01In_n W32 (r.tasks[k]'hif4d94).state 1 6).mono ?_)); rintro _ W39 ⟨rfl, hk40⟩; refine ⟨_, rfl, ?_⟩
      have st41 := St.call st34 hk40
      refine sx_nil ?_
      refine sx_if rfl (fun h43 => ?_) (fun h43 => ?_)
      · skip
        have h43p := inB_iff'.1 h43
        refine sx_region ?_
        refine sx rfl (stp_fieldAddr fa_Run_3 hs35_1 ?_)
        refine sx rfl (stp_load_bx ld_TaskS rfl rfl (st41.get 0 rfl) (i := 7) rfl rfl ?_)
        refine sx rfl (stp_move (v := I (k : Int)) hs35_5 ?_)
        refine sx rfl (stp_indexAddr sl_TaskS rfl hp37 rfl rfl ?_)
        refine sx rfl (stp_fieldAddr fa_Task_0 rfl ?_)
        refine sx rfl (stp_load_rg ld_int rfl rfl hr37 st41.below (i := 0) rfl rfl ?_)
        refine sx rfl (stp_sub rfl rfl (by (simp only [I64] at *; omega)) ?_)
        have hix44 : ((r.tasks[k]'hif4d94).state - 1).toNat < ((⟨#[119, 114, 120, 100, 102, 108]⟩ : ByteArray)).size := (by simp only [bsz, List.size_toArray, List.length_cons, List.length_nil]; omega)
        refine sx rfl (stp_sindex Tryd.underlying9 rfl rfl (by simp only [bsz, List.size_toArray, List.length_cons, List.length_nil]; omega) ?_)
        refine sx rfl (stp_assign (v := (bv (((⟨#[119, 114, 120, 100, 102, 108]⟩ : ByteArray))[((r.tasks[k]'hif4d94).state - 1).toNat]'hix44))) rfl ?_)
        refine sx_nil ?_
        refine sx_region ?_
        refine sx rfl (stp_move (v := vm) hs35_4 ?_)
        refine sx rfl (stp_move (v := (bv (((⟨#[119, 114, 120, 100, 102, 108]⟩ : ByteArray))[((r.tasks[k]'hif4d94).state - 1).toNat]'hix44))) rfl ?_)
        refine sx rfl (stp_buildSliceF (cs := [(bv (((⟨#[119, 114, 120, 100, 102, 108]⟩ : ByteArray))[((r.tasks[k]'hif4d94).state - 1).toNat]'hix44))]) (e := 5) (pcons (v := (bv (((⟨#[119, 114, 120, 100, 102, 108]⟩ : ByteArray))[((r.tasks[k]'hif4d94).state - 1).toNat]'hix44))) rfl pnil) (run_buildSlice1 ap_uint8S _ _ rfl rfl (by decide)) st41 ?_); intro b45 W46 hle47 hb48 st49
        have hm50 := ((hm.below hk40.below).cons hle47).below hb48
        refine sx rfl (stp_append_m (z := taskL (r.tasks[k]'(by omega)).state) (no := [b1]) ap_uint8S rfl rfl (by rw [letter_at (by omega)]) st49 hm50 rfl (by omega) ?_); intro v52 W53 st54 hm55
        refine sx rfl (stp_assign (v := v52) rfl ?_)
        refine sx_nil ?_
        refine sx_region ?_
        refine sx rfl (stp_move (v := I (k : Int)) hs35_5 ?_)
        refine sx rfl (stp_add rfl rfl (by (simp only [I64] at *; omega)) ?_)
        refine sx rfl (stp_assign (v := I ((k : Int) + 1)) rfl ?_)
        refine sx_nil ?_
        exact ⟨_, r.tasks.length - (k + 1), (by omega), rfl, k + 1, v52, (by omega), (by rw [← runB_step (by omega)]; exact hm55), rfl, hs35_1, rfl, rfl, st54⟩
      · skip
        have h43p := inB_not h43
        refine wp_skip ?_
        refine sx_region ?_
        refine sx rfl (stp_move (v := vm) hs35_4 ?_)
        refine sx rfl (stp_move (v := .int .u8 63) rfl ?_)
        refine sx rfl (stp_buildSliceF (cs := [.int .u8 63]) (e := 5) (pcons (v := .int .u8 63) rfl pnil) (run_buildSlice1 ap_uint8S _ _ rfl rfl (by decide)) st41 ?_); intro b56 W57 hle58 hb59 st60
        have hm61 := ((hm.below hk40.below).cons hle58).below hb59
        refine sx rfl (stp_append_m (z := taskL (r.tasks[k]'(by omega)).state) (no := [b1]) ap_uint8S rfl rfl (letter_out (by omega)) st60 hm61 rfl (by omega) ?_); intro v63 W64 st65 hm66
        refine sx rfl (stp_assign (v := v63) rfl ?_)
        refine sx_nil ?_
        refine sx_region ?_
        refine sx rfl (stp_move (v := I (k : Int)) hs35_5 ?_)
        refine sx rfl (stp_add rfl rfl (by (simp only [I64] at *; omega)) ?_)
        refine sx rfl (stp_assign (v := I ((k : Int) + 1)) rfl ?_)
        refine sx_nil ?_
        exact ⟨_, r.tasks.length - (k + 1), (by omega), rfl, k + 1, v63, (by omega), (by rw [← runB_step (by omega)]; exact hm66), rfl, hs35_1, rfl, rfl, st65⟩
    · skip
      have h36p := of_decide_eq_false h36
      refine wp_exit ?_
      refine wp_seq ?_
      refine sx_region ?_
      refine sx rfl (stp_move (v := vm) hs35_4 ?_)
      refine sx rfl (stp_bytesBack Tryd.underlying64 Tryd.underlying5 Tryd.underlying9 rfl (hm.below (Below.refl _ _)) ?_)
      refine sx rfl (stp_assign (v := .string (⟨((runTo r k).data.toList).toArray⟩ : ByteArray)) rfl ?_)
      refine sx_nil ?_
      refine wp_ret ?_; repeat (first | refine then_ret ?_ | refine blk_ret ?_)
      refine ret1 Tryd.results11 rfl ?_
      obtain rfl : k = r.tasks.length := by omega
      exact ⟨(congrArg (fun z => Ending.returned (.string z)) (by apply ByteArray.ext; rfl)), st34.bare⟩
  · skip
    have h11p := inB_not h11
    refine wp_skip ?_
    refine wp_seq ?_
    refine sx_region ?_
    refine sx rfl (stp_fieldAddr fa_Run_0 rfl ?_)
    refine sx rfl (stp_load_bx ld_int rfl rfl (st9.get 0 rfl) (i := 0) rfl rfl ?_)
    refine sx rfl (stp_call1 Tryd.func24 rfl rfl ((DecimalS W7 r.id (by omega)).mono ?_)); rintro _ W67 ⟨rfl, hk68⟩; refine ⟨_, rfl, ?_⟩
    have st69 := St.call st9 hk68
    have hstx : ((⟨#[63]⟩ : ByteArray)).size ≤ 6 := by rw [show (⟨#[63]⟩ : ByteArray) = wordAtB [(⟨#[108, 105, 118, 101]⟩ : ByteArray), (⟨#[100, 111, 110, 101]⟩ : ByteArray), (⟨#[102, 97, 105, 108, 101, 100]⟩ : ByteArray), (⟨#[108, 101, 102, 116]⟩ : ByteArray)] r.state from (wordAtB_out (by simp only [List.length_cons, List.length_nil]; omega)).symm]; exact stateW_size _
    refine sx rfl (stp_sadd rfl rfl (by simp only [ByteArray.size_append, bsz, List.size_toArray, List.length_cons, List.length_nil, List.length_map]; omega) ?_)
    refine sx rfl (stp_move (v := .string (⟨#[63]⟩ : ByteArray)) rfl ?_)
    refine sx rfl (stp_sadd rfl rfl (by simp only [ByteArray.size_append, bsz, List.size_toArray, List.length_cons, List.length_nil, List.length_map]; omega) ?_)
    refine sx rfl (stp_sadd rfl rfl (by simp only [ByteArray.size_append, bsz, List.size_toArray, List.length_cons, List.length_nil, List.length_map]; omega) ?_)
    refine sx rfl (stp_bytesOf (no := [b1]) Tryd.underlying9 Tryd.underlying64 Tryd.underlying5 rfl (by simp only [ByteArray.size_append, bsz, List.size_toArray, List.length_cons, List.length_nil, maxLen]; omega) st69 (by intro b_ hb_; simp only [List.mem_cons, List.not_mem_nil, or_false] at hb_; subst hb_; exact (Array.getElem?_eq_some_iff.1 (show _ = some _ from st69.get 0 rfl)).1) ?_); intro v71 W72 hb73 st74 hm75
    refine sx rfl (stp_assign (v := v71) rfl ?_)
    refine sx_nil ?_
    refine wp_seq ?_
    refine wp_seq ?_
    refine sx_region ?_
    refine sx rfl (stp_assign (v := I 0) rfl ?_)
    refine sx_nil ?_
    refine wp_block ?_
    have hpre : (((itoaB r.id) ++ (⟨#[32]⟩ : ByteArray)) ++ (⟨#[63]⟩ : ByteArray)) ++ (⟨#[32]⟩ : ByteArray) = runPre r := by unfold runPre; rw [show (⟨#[63]⟩ : ByteArray) = wordAtB [(⟨#[108, 105, 118, 101]⟩ : ByteArray), (⟨#[100, 111, 110, 101]⟩ : ByteArray), (⟨#[102, 97, 105, 108, 101, 100]⟩ : ByteArray), (⟨#[108, 101, 102, 116]⟩ : ByteArray)] r.state from (wordAtB_out (by simp only [List.length_cons, List.length_nil]; omega)).symm]
    rw [hpre] at hm75
    refine sx_loop (fun (m : Nat) (f : Nat → Value) (W : World) => ∃ (k : Nat) (vm : Value), k ≤ r.tasks.length ∧ MRow W 5 vm (runTo r k).data.toList w.heap.size [b1] ∧ m = r.tasks.length - k ∧ f 1 = .pointer (some ⟨b1, 0, none⟩) ∧ f 4 = vm ∧ f 5 = I (k : Int) ∧ St w W ([Res.bx b1 [I r.id, I r.plan.prio, I r.plan.most, I r.plan.wait, I r.plan.tasks, v6_0, I r.state, v6_1] 41])) (r.tasks.length - 0) ?_ ?_
    · exact ⟨0, v71, (by omega), (by rw [← runB_0]; exact hm75), rfl, rfl, rfl, rfl, st74⟩
    intro m76 f77 W78 hJ79
    obtain ⟨k, vm, hk, hm, rfl, hs81_1, hs81_4, hs81_5, st80⟩ := hJ79
    have hrs := runTo_size (r := r) (k := k)
    have hrl := runB_len (r := r) (k := k)
    refine wp_seq ?_
    refine wp_seq ?_
    refine sx_region ?_
    refine sx rfl (stp_move (v := I (k : Int)) hs81_5 ?_)
    refine sx rfl (stp_fieldAddr fa_Run_3 hs81_1 ?_)
    refine sx rfl (stp_load_bx ld_TaskS rfl rfl (st80.get 0 rfl) (i := 7) rfl rfl ?_)
    refine sx rfl (stp_len sl_TaskS rfl h6_1 ?_)
    refine sx rfl (stp_lss rfl rfl ?_)
    refine sx_nil ?_
    refine sx_if rfl (fun h82 => ?_) (fun h82 => ?_)
    · skip
      have h82p := of_decide_eq_true h82
      refine wp_skip ?_
      refine wp_seq ?_
      refine wp_block ?_
      refine wp_seq ?_
      refine sx_region ?_
      refine sx rfl (stp_assign (v := .int .u8 63) rfl ?_)
      refine sx_nil ?_
      refine wp_seq ?_
      refine wp_seq ?_
      refine sx_region ?_
      refine sx rfl (stp_fieldAddr fa_Run_3 hs81_1 ?_)
      refine sx rfl (stp_load_bx ld_TaskS rfl rfl (st80.get 0 rfl) (i := 7) rfl rfl ?_)
      refine sx rfl (stp_move (v := I (k : Int)) hs81_5 ?_)
      have hif4d94 : k < r.tasks.length := (by omega)
      have hq_ := idx h6_1 (i := k) hif4d94
      obtain ⟨b83, o83, cs83, f83, hp83, hr83, hc83, hm83⟩ := hq_
      refine sx rfl (stp_indexAddr sl_TaskS rfl hp83 rfl rfl ?_)
      refine sx rfl (stp_fieldAddr fa_Task_0 rfl ?_)
      have hk84 := hc83
      obtain ⟨he84, rfl, hok84⟩ := hk84
      have he84 : _ = [I (r.tasks[k]'hif4d94).state, I (r.tasks[k]'hif4d94).need, I (r.tasks[k]'hif4d94).try_, I (r.tasks[k]'hif4d94).until_] := he84
      subst he84
      refine sx rfl (stp_load_rg ld_int rfl rfl hr83 st80.below (i := 0) rfl rfl ?_)
      refine sx rfl (stp_call3 Tryd.func28 rfl rfl rfl rfl ((l01In_n W78 (r.tasks[k]'hif4d94).state 1 6).mono ?_)); rintro _ W85 ⟨rfl, hk86⟩; refine ⟨_, rfl, ?_⟩
      have st87 := St.call st80 hk86
      refine sx_nil ?_
      refine sx_if rfl (fun h89 => ?_) (fun h89 => ?_)
      · skip
        have h89p := inB_iff'.1 h89
        refine sx_region ?_
        refine sx rfl (stp_fieldAddr fa_Run_3 hs81_1 ?_)
        refine sx rfl (stp_load_bx ld_TaskS rfl rfl (st87.get 0 rfl) (i := 7) rfl rfl ?_)
        refine sx rfl (stp_move (v := I (k : Int)) hs81_5 ?_)
        refine sx rfl (stp_indexAddr sl_TaskS rfl hp83 rfl rfl ?_)
        refine sx rfl (stp_fieldAddr fa_Task_0 rfl ?_)
        refine sx rfl (stp_load_rg ld_int rfl rfl hr83 st87.below (i := 0) rfl rfl ?_)
        refine sx rfl (stp_sub rfl rfl (by (simp only [I64] at *; omega)) ?_)
        have hix90 : ((r.tasks[k]'hif4d94).state - 1).toNat < ((⟨#[119, 114, 120, 100, 102, 108]⟩ : ByteArray)).size := (by simp only [bsz, List.size_toArray, List.length_cons, List.length_nil]; omega)
        refine sx rfl (stp_sindex Tryd.underlying9 rfl rfl (by simp only [bsz, List.size_toArray, List.length_cons, List.length_nil]; omega) ?_)
        refine sx rfl (stp_assign (v := (bv (((⟨#[119, 114, 120, 100, 102, 108]⟩ : ByteArray))[((r.tasks[k]'hif4d94).state - 1).toNat]'hix90))) rfl ?_)
        refine sx_nil ?_
        refine sx_region ?_
        refine sx rfl (stp_move (v := vm) hs81_4 ?_)
        refine sx rfl (stp_move (v := (bv (((⟨#[119, 114, 120, 100, 102, 108]⟩ : ByteArray))[((r.tasks[k]'hif4d94).state - 1).toNat]'hix90))) rfl ?_)
        refine sx rfl (stp_buildSliceF (cs := [(bv (((⟨#[119, 114, 120, 100, 102, 108]⟩ : ByteArray))[((r.tasks[k]'hif4d94).state - 1).toNat]'hix90))]) (e := 5) (pcons (v := (bv (((⟨#[119, 114, 120, 100, 102, 108]⟩ : ByteArray))[((r.tasks[k]'hif4d94).state - 1).toNat]'hix90))) rfl pnil) (run_buildSlice1 ap_uint8S _ _ rfl rfl (by decide)) st87 ?_); intro b91 W92 hle93 hb94 st95
        have hm96 := ((hm.below hk86.below).cons hle93).below hb94
        refine sx rfl (stp_append_m (z := taskL (r.tasks[k]'(by omega)).state) (no := [b1]) ap_uint8S rfl rfl (by rw [letter_at (by omega)]) st95 hm96 rfl (by omega) ?_); intro v98 W99 st100 hm101
        refine sx rfl (stp_assign (v := v98) rfl ?_)
        refine sx_nil ?_
        refine sx_region ?_
        refine sx rfl (stp_move (v := I (k : Int)) hs81_5 ?_)
        refine sx rfl (stp_add rfl rfl (by (simp only [I64] at *; omega)) ?_)
        refine sx rfl (stp_assign (v := I ((k : Int) + 1)) rfl ?_)
        refine sx_nil ?_
        exact ⟨_, r.tasks.length - (k + 1), (by omega), rfl, k + 1, v98, (by omega), (by rw [← runB_step (by omega)]; exact hm101), rfl, hs81_1, rfl, rfl, st100⟩
      · skip
        have h89p := inB_not h89
        refine wp_skip ?_
        refine sx_region ?_
        refine sx rfl (stp_move (v := vm) hs81_4 ?_)
        refine sx rfl (stp_move (v := .int .u8 63) rfl ?_)
        refine sx rfl (stp_buildSliceF (cs := [.int .u8 63]) (e := 5) (pcons (v := .int .u8 63) rfl pnil) (run_buildSlice1 ap_uint8S _ _ rfl rfl (by decide)) st87 ?_); intro b102 W103 hle104 hb105 st106
        have hm107 := ((hm.below hk86.below).cons hle104).below hb105
        refine sx rfl (stp_append_m (z := taskL (r.tasks[k]'(by omega)).state) (no := [b1]) ap_uint8S rfl rfl (letter_out (by omega)) st106 hm107 rfl (by omega) ?_); intro v109 W110 st111 hm112
        refine sx rfl (stp_assign (v := v109) rfl ?_)
        refine sx_nil ?_
        refine sx_region ?_
        refine sx rfl (stp_move (v := I (k : Int)) hs81_5 ?_)
        refine sx rfl (stp_add rfl rfl (by (simp only [I64] at *; omega)) ?_)
        refine sx rfl (stp_assign (v := I ((k : Int) + 1)) rfl ?_)
        refine sx_nil ?_
        exact ⟨_, r.tasks.length - (k + 1), (by omega), rfl, k + 1, v109, (by omega), (by rw [← runB_step (by omega)]; exact hm112), rfl, hs81_1, rfl, rfl, st111⟩
    · skip
      have h82p := of_decide_eq_false h82
      refine wp_exit ?_
      refine wp_seq ?_
      refine sx_region ?_
      refine sx rfl (stp_move (v := vm) hs81_4 ?_)
      refine sx rfl (stp_bytesBack Tryd.underlying64 Tryd.underlying5 Tryd.underlying9 rfl (hm.below (Below.refl _ _)) ?_)
      refine sx rfl (stp_assign (v := .string (⟨((runTo r k).data.toList).toArray⟩ : ByteArray)) rfl ?_)
      refine sx_nil ?_
      refine wp_ret ?_; repeat (first | refine then_ret ?_ | refine blk_ret ?_)
      refine ret1 Tryd.results11 rfl ?_
      obtain rfl : k = r.tasks.length := by omega
      exact ⟨(congrArg (fun z => Ending.returned (.string z)) (by apply ByteArray.ext; rfl)), st80.bare⟩
end Go.Proofs.YtchnllpegfbleaaDoor
